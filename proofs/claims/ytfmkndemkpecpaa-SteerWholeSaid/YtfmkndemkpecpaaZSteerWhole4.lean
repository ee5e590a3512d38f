/- Texts of the law SteerWhole, part 4. -/
import Derived.Test.YtfmkndemkpecpaaZSteerWhole3
/- ip4.header of any bytes. -/
namespace Go.Proofs.Ytfmkndemkpecpaa
open Go.RowKit
set_option linter.unusedVariables false
set_option linter.unusedSimpArgs false
attribute [local go_sem ↓] sliced_cut

attribute [local go_sem] cutA_zero

set_option maxHeartbeats 4000000 in
set_option maxRecDepth 100000 in
theorem hdr4_short (A : Option Addr) (n c : Nat) (l : List UInt8) (w : World) (h : Rb w A n c l) (hm9 : n ≤ 1000000) (hn : n < 20) : Calls Try.prog 128 #[.slice A n c] w (RetV w (.tuple #[.agg (h4C 0 0 0 false false 0 0 0 0 false 0 0 false 0 0 none 0 0).toArray, .int .i64 0, .int .i64 20])) := by
  obtain ⟨du, u1, u2⟩ := rowH4
  have d20 : decide ((n : Int) < 20) = true := by simp only [decide_eq_true_eq]; omega
  have b2 : Bk (w.alloc (.cells #[.int .u8 0, .int .i64 0, .int .u16 0, .bool false, .bool false, .int .i64 0, .int .u8 0, .int .u8 0, .int .u16 0, .bool false, .int .u64 0, .int .u64 0, .bool false, .int .u64 0, .int .u64 0, .slice none 0 0] 140)) w.heap.size 140 (h4C 0 0 0 false false 0 0 0 0 false 0 0 false 0 0 none 0 0) := Bk.new w 140 #[.int .u8 0, .int .i64 0, .int .u16 0, .bool false, .bool false, .int .i64 0, .int .u8 0, .int .u8 0, .int .u16 0, .bool false, .int .u64 0, .int .u64 0, .bool false, .int .u64 0, .int .u64 0, .slice none 0 0]
  have be : Below w.heap.size w (w.alloc (.cells #[.int .u8 0, .int .i64 0, .int .u16 0, .bool false, .bool false, .int .i64 0, .int .u8 0, .int .u8 0, .int .u16 0, .bool false, .int .u64 0, .int .u64 0, .bool false, .int .u64 0, .int .u64 0, .slice none 0 0] 140)) := Below.allocS (Below.refl _ _) _
  go_enter Try.func128, Try.ntmps128
  go_wp2_with (refine at_op (.store 140 (.tmp 2) (.tmp 13)) rfl ?_; refine wpList_stA (t := 140) 140 (.tmp 2) (.tmp 13) rfl rfl (h4C 0 0 0 false false 0 0 0 0 false 0 0 false 0 0 none 0 0) (h4C 0 0 0 false false 0 0 0 0 false 0 0 false 0 0 none 0 0) rfl (h4C_one _ _ _ _ _ _ _ _ _ _ _ _ _ _ _ _ _ _) rfl rfl b2 (szH4 _ _ _ _ _ _ _ _ _ _ _ _ _ _ _ _ _ _) ?_; intro W9 h9 g9)
  refine bodyPost_agg3 Try.results128 rfl rfl rfl h9.range u1 u2 (szH4 _ _ _ _ _ _ _ _ _ _ _ _ _ _ _ _ _ _) rfl (RetV.mk ?_)
  exact below_grown be g9 (by omega)

theorem and_bit (x i : Nat) : x &&& 2 ^ i = x / 2 ^ i % 2 * 2 ^ i := by
  have hb : x.testBit i = decide (x / 2 ^ i % 2 = 1) := Nat.testBit_eq_decide_div_mod_eq
  apply Nat.eq_of_testBit_eq
  intro j
  rw [Nat.testBit_and, Nat.testBit_two_pow]
  by_cases h1 : x / 2 ^ i % 2 = 1
  · rw [h1, Nat.one_mul, Nat.testBit_two_pow]
    by_cases hj : i = j
    · subst hj
      rw [hb]
      simp [h1]
    · simp [hj]
  · have h0 : x / 2 ^ i % 2 = 0 := by omega
    rw [h0, Nat.zero_mul, Nat.zero_testBit]
    by_cases hj : i = j
    · subst hj
      rw [hb]
      simp [h0]
    · simp [hj]
theorem and_2k (x i : Nat) (h : x < 65536) (hi : i < 16) : bits .and .u16 (x : Int) ((2 ^ i : Nat) : Int) = (((x / 2 ^ i % 2) * 2 ^ i : Nat) : Int) := by
  rw [u16_and_nat x (2 ^ i) h (Nat.lt_of_lt_of_le (Nat.pow_lt_pow_right (by decide) hi) (by decide)), and_bit]
theorem and15 (x : Nat) (h : x < 65536) : bits .and .u16 (x : Int) 32768 = ((x / 32768 % 2 * 32768 : Nat) : Int) := and_2k x 15 h (by decide)
theorem and14 (x : Nat) (h : x < 65536) : bits .and .u16 (x : Int) 16384 = ((x / 16384 % 2 * 16384 : Nat) : Int) := and_2k x 14 h (by decide)
theorem and13 (x : Nat) (h : x < 65536) : bits .and .u16 (x : Int) 8192 = ((x / 8192 % 2 * 8192 : Nat) : Int) := and_2k x 13 h (by decide)
theorem and8191 (x : Nat) (h : x < 65536) : bits .and .u16 (x : Int) 8191 = ((x % 8192 : Nat) : Int) := by
  have := u16_and_nat x 8191 h (by decide)
  rw [show (8191 : Nat) = 2 ^ 13 - 1 from rfl, Nat.and_two_pow_sub_one_eq_mod] at this
  exact this
set_option maxHeartbeats 4000000 in
set_option maxRecDepth 100000 in
theorem hdr4_f1 (A : Option Addr) (n c : Nat) (l : List UInt8) (w : World) (h : Rb w A n c l) (hm9 : n ≤ 1000000) (f ts ln id pl : Nat) (x0 : num ((l.drop 0).take 1) = f) (x1 : num ((l.drop 1).take 1) = ts) (x2 : num ((l.drop 2).take 2) = ln) (x3 : num ((l.drop 4).take 2) = id) (x4 : num ((l.drop 6).take 2) = pl) (hn : 20 ≤ n) (hb : f / 16 ≠ 4) : Calls Try.prog 128 #[.slice A n c] w (RetV w (.tuple #[.agg (h4C 0 0 0 false false 0 0 0 0 false 0 0 false 0 0 none 0 0).toArray, .int .i64 0, .int .i64 21])) := by
  obtain ⟨du, u1, u2⟩ := rowH4
  have hc := h.2.1
  have hl := h.1
  have h20n : (20 : Int) ≤ (n : Int) := by omega
  have h20c : (20 : Int) ≤ (c : Int) := by omega
  have d20 : decide ((n : Int) < 20) = false := by simp only [decide_eq_false_iff_not]; omega
  have ht20 : Rb w A 20 c (l.take 20) := h.take (by omega)
  have hf8 : f < 256 := by rw [← x0]; exact num_lt' l 0 1 256 (by decide)
  have hpl : pl < 65536 := by rw [← x4]; exact num_lt' l 6 2 65536 (by decide)
  have hln : ln < 65536 := by rw [← x2]; exact num_lt' l 2 2 65536 (by decide)
  replace x0 : Hid (num (((l.take 20).drop 0).take 1) = f) := Lib.hid (by rw [num_in l 20 0 1 (by decide)]; exact x0)
  replace x1 : Hid (num (((l.take 20).drop 1).take 1) = ts) := Lib.hid (by rw [num_in l 20 1 1 (by decide)]; exact x1)
  replace x2 : Hid (num (((l.take 20).drop 2).take 2) = ln) := Lib.hid (by rw [num_in l 20 2 2 (by decide)]; exact x2)
  replace x3 : Hid (num (((l.take 20).drop 4).take 2) = id) := Lib.hid (by rw [num_in l 20 4 2 (by decide)]; exact x3)
  replace x4 : Hid (num (((l.take 20).drop 6).take 2) = pl) := Lib.hid (by rw [num_in l 20 6 2 (by decide)]; exact x4)
  have hB : (l.take 20).length = 20 := by rw [List.length_take]; omega
  have HR := Lib.hid (fun W (h : Rb W A 20 c (l.take 20)) => readK A 20 c (l.take 20) W h (by decide))
  generalize l.take 20 = B at *
  have hB1 : B.length ≤ 20 := by omega
  have hB2 : 20 ≤ B.length := by omega
  clear hB
  obtain ⟨m, hm⟩ : ∃ m : Nat, m = f % 16 := ⟨_, rfl⟩
  have e1 := u8_and15 f hf8
  rw [← hm] at e1
  obtain ⟨sz, hsz⟩ : ∃ s : Nat, s = 4 * m := ⟨_, rfl⟩
  have e2 : IntKind.i64.wrap (4 * (m : Int)) = (sz : Int) := by rw [IntWalk.i64_in _ (by omega)]; omega
  have e3 : IntKind.i64.wrap (m : Int) = (m : Int) := IntWalk.i64_in _ (by omega)
  have e4 : IntKind.i64.wrap (ln : Int) = (ln : Int) := IntWalk.i64_in _ (by omega)
  have hb1n : ((f : Int) / 16 != 4) = true := by rw [bne_iff_ne]; omega
  clear hm hsz
  have b2 : Bk (w.alloc (.cells #[.int .u8 0, .int .i64 0, .int .u16 0, .bool false, .bool false, .int .i64 0, .int .u8 0, .int .u8 0, .int .u16 0, .bool false, .int .u64 0, .int .u64 0, .bool false, .int .u64 0, .int .u64 0, .slice none 0 0] 140)) w.heap.size 140 (h4C 0 0 0 false false 0 0 0 0 false 0 0 false 0 0 none 0 0) := Bk.new w 140 #[.int .u8 0, .int .i64 0, .int .u16 0, .bool false, .bool false, .int .i64 0, .int .u8 0, .int .u8 0, .int .u16 0, .bool false, .int .u64 0, .int .u64 0, .bool false, .int .u64 0, .int .u64 0, .slice none 0 0]
  have be : Below w.heap.size w (w.alloc (.cells #[.int .u8 0, .int .i64 0, .int .u16 0, .bool false, .bool false, .int .i64 0, .int .u8 0, .int .u8 0, .int .u16 0, .bool false, .int .u64 0, .int .u64 0, .bool false, .int .u64 0, .int .u64 0, .slice none 0 0] 140)) := Below.allocS (Below.refl _ _) _
  go_enter Try.func128, Try.ntmps128
  go_wp2_with fail
  refine (HR.out _ (ht20.alloc _)).mono ?_
  rintro e w1 ⟨r, bs1, d1, rfl, rfl, hr1, hR⟩
  replace b2 := b2.later (below_plus _ bs1 d1)
  replace be := belowP be bs1 d1
  have hr2 : w.heap.size < r := by simp at hr1; omega
  generalize plus (w.alloc (.cells #[.int .u8 0, .int .i64 0, .int .u16 0, .bool false, .bool false, .int .i64 0, .int .u8 0, .int .u8 0, .int .u16 0, .bool false, .int .u64 0, .int .u64 0, .bool false, .int .u64 0, .int .u64 0, .slice none 0 0] 140)) bs1 d1 = W0 at *
  clear hr1
  go_wp2_with fail
  refine (byteG W0 r B 0 f hR (by omega) (by omega) x0.out).mono ?_
  clear x0
  rintro e W1 ⟨rfl, hR1, hg⟩
  replace b2 := b2.grown hg (by simp; omega)
  replace be := below_grown be hg (by omega)
  clear hR hg
  have hR := hR1
  clear hR1
  go_wp2_with fail
  refine (byteG W1 r B 1 ts hR (by omega) (by omega) x1.out).mono ?_
  clear x1
  rintro e W2 ⟨rfl, hR1, hg⟩
  replace b2 := b2.grown hg (by simp; omega)
  replace be := below_grown be hg (by omega)
  clear hR hg
  have hR := hR1
  clear hR1
  go_wp2_with fail
  refine (wordG W2 r B 2 ln hR (by omega) (by omega) x2.out).mono ?_
  clear x2
  rintro e W3 ⟨rfl, hR1, hg⟩
  replace b2 := b2.grown hg (by simp; omega)
  replace be := below_grown be hg (by omega)
  clear hR hg
  have hR := hR1
  clear hR1
  go_wp2_with fail
  refine (wordG W3 r B 4 id hR (by omega) (by omega) x3.out).mono ?_
  clear x3
  rintro e W4 ⟨rfl, hR1, hg⟩
  replace b2 := b2.grown hg (by simp; omega)
  replace be := below_grown be hg (by omega)
  clear hR hg
  have hR := hR1
  clear hR1
  have zr := hR.lt
  go_wp2_with fail
  have b8 : Bk (W4.alloc (.cells #[.int .u8 (ts : Int), .int .i64 (ln : Int), .int .u16 (id : Int), .bool false, .bool false, .int .i64 0, .int .u8 0, .int .u8 0, .int .u16 0, .bool false, .int .u64 0, .int .u64 0, .bool false, .int .u64 0, .int .u64 0, .slice none 0 0] 140)) W4.heap.size 140 [.int .u8 (ts : Int), .int .i64 (ln : Int), .int .u16 (id : Int), .bool false, .bool false, .int .i64 0, .int .u8 0, .int .u8 0, .int .u16 0, .bool false, .int .u64 0, .int .u64 0, .bool false, .int .u64 0, .int .u64 0, .slice none 0 0] := Bk.new W4 140 #[.int .u8 (ts : Int), .int .i64 (ln : Int), .int .u16 (id : Int), .bool false, .bool false, .int .i64 0, .int .u8 0, .int .u8 0, .int .u16 0, .bool false, .int .u64 0, .int .u64 0, .bool false, .int .u64 0, .int .u64 0, .slice none 0 0]
  replace b2 := b2.alloc (.cells #[.int .u8 (ts : Int), .int .i64 (ln : Int), .int .u16 (id : Int), .bool false, .bool false, .int .i64 0, .int .u8 0, .int .u8 0, .int .u16 0, .bool false, .int .u64 0, .int .u64 0, .bool false, .int .u64 0, .int .u64 0, .slice none 0 0] 140)
  replace be := Below.allocS be (.cells #[.int .u8 (ts : Int), .int .i64 (ln : Int), .int .u16 (id : Int), .bool false, .bool false, .int .i64 0, .int .u8 0, .int .u8 0, .int .u16 0, .bool false, .int .u64 0, .int .u64 0, .bool false, .int .u64 0, .int .u64 0, .slice none 0 0] 140)
  replace hR := hR.later ((Below.refl _ _).alloc (Nat.le_refl _) (.cells #[.int .u8 (ts : Int), .int .i64 (ln : Int), .int .u16 (id : Int), .bool false, .bool false, .int .i64 0, .int .u8 0, .int .u8 0, .int .u16 0, .bool false, .int .u64 0, .int .u64 0, .bool false, .int .u64 0, .int .u64 0, .slice none 0 0] 140))
  have zb := be.size
  generalize W4.alloc (.cells #[.int .u8 (ts : Int), .int .i64 (ln : Int), .int .u16 (id : Int), .bool false, .bool false, .int .i64 0, .int .u8 0, .int .u8 0, .int .u16 0, .bool false, .int .u64 0, .int .u64 0, .bool false, .int .u64 0, .int .u64 0, .slice none 0 0] 140) = V0 at *
  have zg : w.heap.size < W4.heap.size := by omega
  generalize W4.heap.size = g8 at *
  refine (wordG V0 r B 6 pl hR (by omega) (by omega) x4.out).mono ?_
  clear x4
  rintro e W5 ⟨rfl, hR1, hg⟩
  replace b2 := b2.grown hg (by simp; omega)
  replace b8 := b8.grown hg (by simp; omega)
  replace be := below_grown be hg (by omega)
  clear hR hg
  have hR := hR1
  clear hR1
  have y1 : W5.cell? ⟨g8, 1, none⟩ = some (.int .i64 (ln : Int)) := b8.cell 1
  have z8 := b8.lt
  clear zb
  go_wp2_with (refine at_op (.store 140 (.tmp 2) (.tmp 51)) rfl ?_; refine wpList_stA (t := 140) 140 (.tmp 2) (.tmp 51) rfl rfl (h4C 0 0 0 false false 0 0 0 0 false 0 0 false 0 0 none 0 0) (h4C 0 0 0 false false 0 0 0 0 false 0 0 false 0 0 none 0 0) rfl (h4C_one _ _ _ _ _ _ _ _ _ _ _ _ _ _ _ _ _ _) rfl rfl b2 (szH4 _ _ _ _ _ _ _ _ _ _ _ _ _ _ _ _ _ _) ?_; intro W9 h9 g9)
  refine bodyPost_agg3 Try.results128 rfl rfl rfl h9.range u1 u2 (szH4 _ _ _ _ _ _ _ _ _ _ _ _ _ _ _ _ _ _) rfl (RetV.mk ?_)
  exact below_grown be g9 (by omega)
set_option maxHeartbeats 4000000 in
set_option maxRecDepth 100000 in
theorem hdr4_f2 (A : Option Addr) (n c : Nat) (l : List UInt8) (w : World) (h : Rb w A n c l) (hm9 : n ≤ 1000000) (f ts ln id pl : Nat) (x0 : num ((l.drop 0).take 1) = f) (x1 : num ((l.drop 1).take 1) = ts) (x2 : num ((l.drop 2).take 2) = ln) (x3 : num ((l.drop 4).take 2) = id) (x4 : num ((l.drop 6).take 2) = pl) (hn : 20 ≤ n) (hb : f / 16 = 4) (hs : 4 * (f % 16) < 20) : Calls Try.prog 128 #[.slice A n c] w (RetV w (.tuple #[.agg (h4C 0 0 0 false false 0 0 0 0 false 0 0 false 0 0 none 0 0).toArray, .int .i64 0, .int .i64 21])) := by
  obtain ⟨du, u1, u2⟩ := rowH4
  have hc := h.2.1
  have hl := h.1
  have h20n : (20 : Int) ≤ (n : Int) := by omega
  have h20c : (20 : Int) ≤ (c : Int) := by omega
  have d20 : decide ((n : Int) < 20) = false := by simp only [decide_eq_false_iff_not]; omega
  have ht20 : Rb w A 20 c (l.take 20) := h.take (by omega)
  have hf8 : f < 256 := by rw [← x0]; exact num_lt' l 0 1 256 (by decide)
  have hpl : pl < 65536 := by rw [← x4]; exact num_lt' l 6 2 65536 (by decide)
  have hln : ln < 65536 := by rw [← x2]; exact num_lt' l 2 2 65536 (by decide)
  replace x0 : Hid (num (((l.take 20).drop 0).take 1) = f) := Lib.hid (by rw [num_in l 20 0 1 (by decide)]; exact x0)
  replace x1 : Hid (num (((l.take 20).drop 1).take 1) = ts) := Lib.hid (by rw [num_in l 20 1 1 (by decide)]; exact x1)
  replace x2 : Hid (num (((l.take 20).drop 2).take 2) = ln) := Lib.hid (by rw [num_in l 20 2 2 (by decide)]; exact x2)
  replace x3 : Hid (num (((l.take 20).drop 4).take 2) = id) := Lib.hid (by rw [num_in l 20 4 2 (by decide)]; exact x3)
  replace x4 : Hid (num (((l.take 20).drop 6).take 2) = pl) := Lib.hid (by rw [num_in l 20 6 2 (by decide)]; exact x4)
  have hB : (l.take 20).length = 20 := by rw [List.length_take]; omega
  have HR := Lib.hid (fun W (h : Rb W A 20 c (l.take 20)) => readK A 20 c (l.take 20) W h (by decide))
  generalize l.take 20 = B at *
  have hB1 : B.length ≤ 20 := by omega
  have hB2 : 20 ≤ B.length := by omega
  clear hB
  obtain ⟨m, hm⟩ : ∃ m : Nat, m = f % 16 := ⟨_, rfl⟩
  have e1 := u8_and15 f hf8
  rw [← hm] at e1
  obtain ⟨sz, hsz⟩ : ∃ s : Nat, s = 4 * m := ⟨_, rfl⟩
  have e2 : IntKind.i64.wrap (4 * (m : Int)) = (sz : Int) := by rw [IntWalk.i64_in _ (by omega)]; omega
  have e3 : IntKind.i64.wrap (m : Int) = (m : Int) := IntWalk.i64_in _ (by omega)
  have e4 : IntKind.i64.wrap (ln : Int) = (ln : Int) := IntWalk.i64_in _ (by omega)
  have hb1 : (f : Int) / 16 = 4 := by omega
  have hb1n : ((f : Int) / 16 != 4) = false := by rw [hb1]; rfl
  have qd0 : decide ((sz : Int) < 20) = true := by simp only [decide_eq_true_eq]; omega
  have qd1 : decide (sz < 20) = true := by simp only [decide_eq_true_eq]; omega
  clear hb1
  clear hm hsz
  have b2 : Bk (w.alloc (.cells #[.int .u8 0, .int .i64 0, .int .u16 0, .bool false, .bool false, .int .i64 0, .int .u8 0, .int .u8 0, .int .u16 0, .bool false, .int .u64 0, .int .u64 0, .bool false, .int .u64 0, .int .u64 0, .slice none 0 0] 140)) w.heap.size 140 (h4C 0 0 0 false false 0 0 0 0 false 0 0 false 0 0 none 0 0) := Bk.new w 140 #[.int .u8 0, .int .i64 0, .int .u16 0, .bool false, .bool false, .int .i64 0, .int .u8 0, .int .u8 0, .int .u16 0, .bool false, .int .u64 0, .int .u64 0, .bool false, .int .u64 0, .int .u64 0, .slice none 0 0]
  have be : Below w.heap.size w (w.alloc (.cells #[.int .u8 0, .int .i64 0, .int .u16 0, .bool false, .bool false, .int .i64 0, .int .u8 0, .int .u8 0, .int .u16 0, .bool false, .int .u64 0, .int .u64 0, .bool false, .int .u64 0, .int .u64 0, .slice none 0 0] 140)) := Below.allocS (Below.refl _ _) _
  go_enter Try.func128, Try.ntmps128
  go_wp2_with fail
  refine (HR.out _ (ht20.alloc _)).mono ?_
  rintro e w1 ⟨r, bs1, d1, rfl, rfl, hr1, hR⟩
  replace b2 := b2.later (below_plus _ bs1 d1)
  replace be := belowP be bs1 d1
  have hr2 : w.heap.size < r := by simp at hr1; omega
  generalize plus (w.alloc (.cells #[.int .u8 0, .int .i64 0, .int .u16 0, .bool false, .bool false, .int .i64 0, .int .u8 0, .int .u8 0, .int .u16 0, .bool false, .int .u64 0, .int .u64 0, .bool false, .int .u64 0, .int .u64 0, .slice none 0 0] 140)) bs1 d1 = W0 at *
  clear hr1
  go_wp2_with fail
  refine (byteG W0 r B 0 f hR (by omega) (by omega) x0.out).mono ?_
  clear x0
  rintro e W1 ⟨rfl, hR1, hg⟩
  replace b2 := b2.grown hg (by simp; omega)
  replace be := below_grown be hg (by omega)
  clear hR hg
  have hR := hR1
  clear hR1
  go_wp2_with fail
  refine (byteG W1 r B 1 ts hR (by omega) (by omega) x1.out).mono ?_
  clear x1
  rintro e W2 ⟨rfl, hR1, hg⟩
  replace b2 := b2.grown hg (by simp; omega)
  replace be := below_grown be hg (by omega)
  clear hR hg
  have hR := hR1
  clear hR1
  go_wp2_with fail
  refine (wordG W2 r B 2 ln hR (by omega) (by omega) x2.out).mono ?_
  clear x2
  rintro e W3 ⟨rfl, hR1, hg⟩
  replace b2 := b2.grown hg (by simp; omega)
  replace be := below_grown be hg (by omega)
  clear hR hg
  have hR := hR1
  clear hR1
  go_wp2_with fail
  refine (wordG W3 r B 4 id hR (by omega) (by omega) x3.out).mono ?_
  clear x3
  rintro e W4 ⟨rfl, hR1, hg⟩
  replace b2 := b2.grown hg (by simp; omega)
  replace be := below_grown be hg (by omega)
  clear hR hg
  have hR := hR1
  clear hR1
  have zr := hR.lt
  go_wp2_with fail
  have b8 : Bk (W4.alloc (.cells #[.int .u8 (ts : Int), .int .i64 (ln : Int), .int .u16 (id : Int), .bool false, .bool false, .int .i64 0, .int .u8 0, .int .u8 0, .int .u16 0, .bool false, .int .u64 0, .int .u64 0, .bool false, .int .u64 0, .int .u64 0, .slice none 0 0] 140)) W4.heap.size 140 [.int .u8 (ts : Int), .int .i64 (ln : Int), .int .u16 (id : Int), .bool false, .bool false, .int .i64 0, .int .u8 0, .int .u8 0, .int .u16 0, .bool false, .int .u64 0, .int .u64 0, .bool false, .int .u64 0, .int .u64 0, .slice none 0 0] := Bk.new W4 140 #[.int .u8 (ts : Int), .int .i64 (ln : Int), .int .u16 (id : Int), .bool false, .bool false, .int .i64 0, .int .u8 0, .int .u8 0, .int .u16 0, .bool false, .int .u64 0, .int .u64 0, .bool false, .int .u64 0, .int .u64 0, .slice none 0 0]
  replace b2 := b2.alloc (.cells #[.int .u8 (ts : Int), .int .i64 (ln : Int), .int .u16 (id : Int), .bool false, .bool false, .int .i64 0, .int .u8 0, .int .u8 0, .int .u16 0, .bool false, .int .u64 0, .int .u64 0, .bool false, .int .u64 0, .int .u64 0, .slice none 0 0] 140)
  replace be := Below.allocS be (.cells #[.int .u8 (ts : Int), .int .i64 (ln : Int), .int .u16 (id : Int), .bool false, .bool false, .int .i64 0, .int .u8 0, .int .u8 0, .int .u16 0, .bool false, .int .u64 0, .int .u64 0, .bool false, .int .u64 0, .int .u64 0, .slice none 0 0] 140)
  replace hR := hR.later ((Below.refl _ _).alloc (Nat.le_refl _) (.cells #[.int .u8 (ts : Int), .int .i64 (ln : Int), .int .u16 (id : Int), .bool false, .bool false, .int .i64 0, .int .u8 0, .int .u8 0, .int .u16 0, .bool false, .int .u64 0, .int .u64 0, .bool false, .int .u64 0, .int .u64 0, .slice none 0 0] 140))
  have zb := be.size
  generalize W4.alloc (.cells #[.int .u8 (ts : Int), .int .i64 (ln : Int), .int .u16 (id : Int), .bool false, .bool false, .int .i64 0, .int .u8 0, .int .u8 0, .int .u16 0, .bool false, .int .u64 0, .int .u64 0, .bool false, .int .u64 0, .int .u64 0, .slice none 0 0] 140) = V0 at *
  have zg : w.heap.size < W4.heap.size := by omega
  generalize W4.heap.size = g8 at *
  refine (wordG V0 r B 6 pl hR (by omega) (by omega) x4.out).mono ?_
  clear x4
  rintro e W5 ⟨rfl, hR1, hg⟩
  replace b2 := b2.grown hg (by simp; omega)
  replace b8 := b8.grown hg (by simp; omega)
  replace be := below_grown be hg (by omega)
  clear hR hg
  have hR := hR1
  clear hR1
  have y1 : W5.cell? ⟨g8, 1, none⟩ = some (.int .i64 (ln : Int)) := b8.cell 1
  have z8 := b8.lt
  clear zb
  go_wp2_with (refine at_op (.store 140 (.tmp 2) (.tmp 51)) rfl ?_; refine wpList_stA (t := 140) 140 (.tmp 2) (.tmp 51) rfl rfl (h4C 0 0 0 false false 0 0 0 0 false 0 0 false 0 0 none 0 0) (h4C 0 0 0 false false 0 0 0 0 false 0 0 false 0 0 none 0 0) rfl (h4C_one _ _ _ _ _ _ _ _ _ _ _ _ _ _ _ _ _ _) rfl rfl b2 (szH4 _ _ _ _ _ _ _ _ _ _ _ _ _ _ _ _ _ _) ?_; intro W9 h9 g9)
  refine bodyPost_agg3 Try.results128 rfl rfl rfl h9.range u1 u2 (szH4 _ _ _ _ _ _ _ _ _ _ _ _ _ _ _ _ _ _) rfl (RetV.mk ?_)
  exact below_grown be g9 (by omega)
set_option maxHeartbeats 4000000 in
set_option maxRecDepth 100000 in
theorem hdr4_f3 (A : Option Addr) (n c : Nat) (l : List UInt8) (w : World) (h : Rb w A n c l) (hm9 : n ≤ 1000000) (f ts ln id pl : Nat) (x0 : num ((l.drop 0).take 1) = f) (x1 : num ((l.drop 1).take 1) = ts) (x2 : num ((l.drop 2).take 2) = ln) (x3 : num ((l.drop 4).take 2) = id) (x4 : num ((l.drop 6).take 2) = pl) (hn : 20 ≤ n) (hb : f / 16 = 4) (hs : 20 ≤ 4 * (f % 16)) (hp9 : 32768 ≤ pl) : Calls Try.prog 128 #[.slice A n c] w (RetV w (.tuple #[.agg (h4C 0 0 0 false false 0 0 0 0 false 0 0 false 0 0 none 0 0).toArray, .int .i64 0, .int .i64 21])) := by
  obtain ⟨du, u1, u2⟩ := rowH4
  have hc := h.2.1
  have hl := h.1
  have h20n : (20 : Int) ≤ (n : Int) := by omega
  have h20c : (20 : Int) ≤ (c : Int) := by omega
  have d20 : decide ((n : Int) < 20) = false := by simp only [decide_eq_false_iff_not]; omega
  have ht20 : Rb w A 20 c (l.take 20) := h.take (by omega)
  have hf8 : f < 256 := by rw [← x0]; exact num_lt' l 0 1 256 (by decide)
  have hpl : pl < 65536 := by rw [← x4]; exact num_lt' l 6 2 65536 (by decide)
  have hln : ln < 65536 := by rw [← x2]; exact num_lt' l 2 2 65536 (by decide)
  replace x0 : Hid (num (((l.take 20).drop 0).take 1) = f) := Lib.hid (by rw [num_in l 20 0 1 (by decide)]; exact x0)
  replace x1 : Hid (num (((l.take 20).drop 1).take 1) = ts) := Lib.hid (by rw [num_in l 20 1 1 (by decide)]; exact x1)
  replace x2 : Hid (num (((l.take 20).drop 2).take 2) = ln) := Lib.hid (by rw [num_in l 20 2 2 (by decide)]; exact x2)
  replace x3 : Hid (num (((l.take 20).drop 4).take 2) = id) := Lib.hid (by rw [num_in l 20 4 2 (by decide)]; exact x3)
  replace x4 : Hid (num (((l.take 20).drop 6).take 2) = pl) := Lib.hid (by rw [num_in l 20 6 2 (by decide)]; exact x4)
  have hB : (l.take 20).length = 20 := by rw [List.length_take]; omega
  have HR := Lib.hid (fun W (h : Rb W A 20 c (l.take 20)) => readK A 20 c (l.take 20) W h (by decide))
  generalize l.take 20 = B at *
  have hB1 : B.length ≤ 20 := by omega
  have hB2 : 20 ≤ B.length := by omega
  clear hB
  obtain ⟨m, hm⟩ : ∃ m : Nat, m = f % 16 := ⟨_, rfl⟩
  have e1 := u8_and15 f hf8
  rw [← hm] at e1
  obtain ⟨sz, hsz⟩ : ∃ s : Nat, s = 4 * m := ⟨_, rfl⟩
  have e2 : IntKind.i64.wrap (4 * (m : Int)) = (sz : Int) := by rw [IntWalk.i64_in _ (by omega)]; omega
  have e3 : IntKind.i64.wrap (m : Int) = (m : Int) := IntWalk.i64_in _ (by omega)
  have e4 : IntKind.i64.wrap (ln : Int) = (ln : Int) := IntWalk.i64_in _ (by omega)
  have hb1 : (f : Int) / 16 = 4 := by omega
  have hb1n : ((f : Int) / 16 != 4) = false := by rw [hb1]; rfl
  have qd2 : decide ((sz : Int) < 20) = false := by simp only [decide_eq_false_iff_not]; omega
  have qd3 : decide (sz < 20) = false := by simp only [decide_eq_false_iff_not]; omega
  have hp0 : pl / 32768 % 2 = 1 := by omega
  have hp : bits .and .u16 (pl : Int) 32768 = 32768 := by rw [and15 pl hpl, hp0]; rfl
  clear hp0
  clear hb1
  clear hm hsz
  have b2 : Bk (w.alloc (.cells #[.int .u8 0, .int .i64 0, .int .u16 0, .bool false, .bool false, .int .i64 0, .int .u8 0, .int .u8 0, .int .u16 0, .bool false, .int .u64 0, .int .u64 0, .bool false, .int .u64 0, .int .u64 0, .slice none 0 0] 140)) w.heap.size 140 (h4C 0 0 0 false false 0 0 0 0 false 0 0 false 0 0 none 0 0) := Bk.new w 140 #[.int .u8 0, .int .i64 0, .int .u16 0, .bool false, .bool false, .int .i64 0, .int .u8 0, .int .u8 0, .int .u16 0, .bool false, .int .u64 0, .int .u64 0, .bool false, .int .u64 0, .int .u64 0, .slice none 0 0]
  have be : Below w.heap.size w (w.alloc (.cells #[.int .u8 0, .int .i64 0, .int .u16 0, .bool false, .bool false, .int .i64 0, .int .u8 0, .int .u8 0, .int .u16 0, .bool false, .int .u64 0, .int .u64 0, .bool false, .int .u64 0, .int .u64 0, .slice none 0 0] 140)) := Below.allocS (Below.refl _ _) _
  go_enter Try.func128, Try.ntmps128
  go_wp2_with fail
  refine (HR.out _ (ht20.alloc _)).mono ?_
  rintro e w1 ⟨r, bs1, d1, rfl, rfl, hr1, hR⟩
  replace b2 := b2.later (below_plus _ bs1 d1)
  replace be := belowP be bs1 d1
  have hr2 : w.heap.size < r := by simp at hr1; omega
  generalize plus (w.alloc (.cells #[.int .u8 0, .int .i64 0, .int .u16 0, .bool false, .bool false, .int .i64 0, .int .u8 0, .int .u8 0, .int .u16 0, .bool false, .int .u64 0, .int .u64 0, .bool false, .int .u64 0, .int .u64 0, .slice none 0 0] 140)) bs1 d1 = W0 at *
  clear hr1
  go_wp2_with fail
  refine (byteG W0 r B 0 f hR (by omega) (by omega) x0.out).mono ?_
  clear x0
  rintro e W1 ⟨rfl, hR1, hg⟩
  replace b2 := b2.grown hg (by simp; omega)
  replace be := below_grown be hg (by omega)
  clear hR hg
  have hR := hR1
  clear hR1
  go_wp2_with fail
  refine (byteG W1 r B 1 ts hR (by omega) (by omega) x1.out).mono ?_
  clear x1
  rintro e W2 ⟨rfl, hR1, hg⟩
  replace b2 := b2.grown hg (by simp; omega)
  replace be := below_grown be hg (by omega)
  clear hR hg
  have hR := hR1
  clear hR1
  go_wp2_with fail
  refine (wordG W2 r B 2 ln hR (by omega) (by omega) x2.out).mono ?_
  clear x2
  rintro e W3 ⟨rfl, hR1, hg⟩
  replace b2 := b2.grown hg (by simp; omega)
  replace be := below_grown be hg (by omega)
  clear hR hg
  have hR := hR1
  clear hR1
  go_wp2_with fail
  refine (wordG W3 r B 4 id hR (by omega) (by omega) x3.out).mono ?_
  clear x3
  rintro e W4 ⟨rfl, hR1, hg⟩
  replace b2 := b2.grown hg (by simp; omega)
  replace be := below_grown be hg (by omega)
  clear hR hg
  have hR := hR1
  clear hR1
  have zr := hR.lt
  go_wp2_with fail
  have b8 : Bk (W4.alloc (.cells #[.int .u8 (ts : Int), .int .i64 (ln : Int), .int .u16 (id : Int), .bool false, .bool false, .int .i64 0, .int .u8 0, .int .u8 0, .int .u16 0, .bool false, .int .u64 0, .int .u64 0, .bool false, .int .u64 0, .int .u64 0, .slice none 0 0] 140)) W4.heap.size 140 [.int .u8 (ts : Int), .int .i64 (ln : Int), .int .u16 (id : Int), .bool false, .bool false, .int .i64 0, .int .u8 0, .int .u8 0, .int .u16 0, .bool false, .int .u64 0, .int .u64 0, .bool false, .int .u64 0, .int .u64 0, .slice none 0 0] := Bk.new W4 140 #[.int .u8 (ts : Int), .int .i64 (ln : Int), .int .u16 (id : Int), .bool false, .bool false, .int .i64 0, .int .u8 0, .int .u8 0, .int .u16 0, .bool false, .int .u64 0, .int .u64 0, .bool false, .int .u64 0, .int .u64 0, .slice none 0 0]
  replace b2 := b2.alloc (.cells #[.int .u8 (ts : Int), .int .i64 (ln : Int), .int .u16 (id : Int), .bool false, .bool false, .int .i64 0, .int .u8 0, .int .u8 0, .int .u16 0, .bool false, .int .u64 0, .int .u64 0, .bool false, .int .u64 0, .int .u64 0, .slice none 0 0] 140)
  replace be := Below.allocS be (.cells #[.int .u8 (ts : Int), .int .i64 (ln : Int), .int .u16 (id : Int), .bool false, .bool false, .int .i64 0, .int .u8 0, .int .u8 0, .int .u16 0, .bool false, .int .u64 0, .int .u64 0, .bool false, .int .u64 0, .int .u64 0, .slice none 0 0] 140)
  replace hR := hR.later ((Below.refl _ _).alloc (Nat.le_refl _) (.cells #[.int .u8 (ts : Int), .int .i64 (ln : Int), .int .u16 (id : Int), .bool false, .bool false, .int .i64 0, .int .u8 0, .int .u8 0, .int .u16 0, .bool false, .int .u64 0, .int .u64 0, .bool false, .int .u64 0, .int .u64 0, .slice none 0 0] 140))
  have zb := be.size
  generalize W4.alloc (.cells #[.int .u8 (ts : Int), .int .i64 (ln : Int), .int .u16 (id : Int), .bool false, .bool false, .int .i64 0, .int .u8 0, .int .u8 0, .int .u16 0, .bool false, .int .u64 0, .int .u64 0, .bool false, .int .u64 0, .int .u64 0, .slice none 0 0] 140) = V0 at *
  have zg : w.heap.size < W4.heap.size := by omega
  generalize W4.heap.size = g8 at *
  refine (wordG V0 r B 6 pl hR (by omega) (by omega) x4.out).mono ?_
  clear x4
  rintro e W5 ⟨rfl, hR1, hg⟩
  replace b2 := b2.grown hg (by simp; omega)
  replace b8 := b8.grown hg (by simp; omega)
  replace be := below_grown be hg (by omega)
  clear hR hg
  have hR := hR1
  clear hR1
  have y1 : W5.cell? ⟨g8, 1, none⟩ = some (.int .i64 (ln : Int)) := b8.cell 1
  have z8 := b8.lt
  clear zb
  go_wp2_with (refine at_op (.store 140 (.tmp 2) (.tmp 51)) rfl ?_; refine wpList_stA (t := 140) 140 (.tmp 2) (.tmp 51) rfl rfl (h4C 0 0 0 false false 0 0 0 0 false 0 0 false 0 0 none 0 0) (h4C 0 0 0 false false 0 0 0 0 false 0 0 false 0 0 none 0 0) rfl (h4C_one _ _ _ _ _ _ _ _ _ _ _ _ _ _ _ _ _ _) rfl rfl b2 (szH4 _ _ _ _ _ _ _ _ _ _ _ _ _ _ _ _ _ _) ?_; intro W9 h9 g9)
  refine bodyPost_agg3 Try.results128 rfl rfl rfl h9.range u1 u2 (szH4 _ _ _ _ _ _ _ _ _ _ _ _ _ _ _ _ _ _) rfl (RetV.mk ?_)
  exact below_grown be g9 (by omega)
set_option maxHeartbeats 4000000 in
set_option maxRecDepth 100000 in
theorem hdr4_f4 (A : Option Addr) (n c : Nat) (l : List UInt8) (w : World) (h : Rb w A n c l) (hm9 : n ≤ 1000000) (f ts ln id pl : Nat) (x0 : num ((l.drop 0).take 1) = f) (x1 : num ((l.drop 1).take 1) = ts) (x2 : num ((l.drop 2).take 2) = ln) (x3 : num ((l.drop 4).take 2) = id) (x4 : num ((l.drop 6).take 2) = pl) (hn : 20 ≤ n) (hb : f / 16 = 4) (hs : 20 ≤ 4 * (f % 16)) (hp9 : pl < 32768) (hl9 : ln < 4 * (f % 16)) : Calls Try.prog 128 #[.slice A n c] w (RetV w (.tuple #[.agg (h4C 0 0 0 false false 0 0 0 0 false 0 0 false 0 0 none 0 0).toArray, .int .i64 0, .int .i64 21])) := by
  obtain ⟨du, u1, u2⟩ := rowH4
  have hc := h.2.1
  have hl := h.1
  have h20n : (20 : Int) ≤ (n : Int) := by omega
  have h20c : (20 : Int) ≤ (c : Int) := by omega
  have d20 : decide ((n : Int) < 20) = false := by simp only [decide_eq_false_iff_not]; omega
  have ht20 : Rb w A 20 c (l.take 20) := h.take (by omega)
  have hf8 : f < 256 := by rw [← x0]; exact num_lt' l 0 1 256 (by decide)
  have hpl : pl < 65536 := by rw [← x4]; exact num_lt' l 6 2 65536 (by decide)
  have hln : ln < 65536 := by rw [← x2]; exact num_lt' l 2 2 65536 (by decide)
  replace x0 : Hid (num (((l.take 20).drop 0).take 1) = f) := Lib.hid (by rw [num_in l 20 0 1 (by decide)]; exact x0)
  replace x1 : Hid (num (((l.take 20).drop 1).take 1) = ts) := Lib.hid (by rw [num_in l 20 1 1 (by decide)]; exact x1)
  replace x2 : Hid (num (((l.take 20).drop 2).take 2) = ln) := Lib.hid (by rw [num_in l 20 2 2 (by decide)]; exact x2)
  replace x3 : Hid (num (((l.take 20).drop 4).take 2) = id) := Lib.hid (by rw [num_in l 20 4 2 (by decide)]; exact x3)
  replace x4 : Hid (num (((l.take 20).drop 6).take 2) = pl) := Lib.hid (by rw [num_in l 20 6 2 (by decide)]; exact x4)
  have hB : (l.take 20).length = 20 := by rw [List.length_take]; omega
  have HR := Lib.hid (fun W (h : Rb W A 20 c (l.take 20)) => readK A 20 c (l.take 20) W h (by decide))
  generalize l.take 20 = B at *
  have hB1 : B.length ≤ 20 := by omega
  have hB2 : 20 ≤ B.length := by omega
  clear hB
  obtain ⟨m, hm⟩ : ∃ m : Nat, m = f % 16 := ⟨_, rfl⟩
  have e1 := u8_and15 f hf8
  rw [← hm] at e1
  obtain ⟨sz, hsz⟩ : ∃ s : Nat, s = 4 * m := ⟨_, rfl⟩
  have e2 : IntKind.i64.wrap (4 * (m : Int)) = (sz : Int) := by rw [IntWalk.i64_in _ (by omega)]; omega
  have e3 : IntKind.i64.wrap (m : Int) = (m : Int) := IntWalk.i64_in _ (by omega)
  have e4 : IntKind.i64.wrap (ln : Int) = (ln : Int) := IntWalk.i64_in _ (by omega)
  have hb1 : (f : Int) / 16 = 4 := by omega
  have hb1n : ((f : Int) / 16 != 4) = false := by rw [hb1]; rfl
  have qd4 : decide ((sz : Int) < 20) = false := by simp only [decide_eq_false_iff_not]; omega
  have qd5 : decide (sz < 20) = false := by simp only [decide_eq_false_iff_not]; omega
  have hp0 : pl / 32768 % 2 = 0 := by omega
  have hp : bits .and .u16 (pl : Int) 32768 = 0 := by rw [and15 pl hpl, hp0]; rfl
  clear hp0
  have qd6 : decide ((ln : Int) < (sz : Int)) = true := by simp only [decide_eq_true_eq]; omega
  have qd7 : decide (ln < sz) = true := by simp only [decide_eq_true_eq]; omega
  clear hb1
  clear hm hsz
  have b2 : Bk (w.alloc (.cells #[.int .u8 0, .int .i64 0, .int .u16 0, .bool false, .bool false, .int .i64 0, .int .u8 0, .int .u8 0, .int .u16 0, .bool false, .int .u64 0, .int .u64 0, .bool false, .int .u64 0, .int .u64 0, .slice none 0 0] 140)) w.heap.size 140 (h4C 0 0 0 false false 0 0 0 0 false 0 0 false 0 0 none 0 0) := Bk.new w 140 #[.int .u8 0, .int .i64 0, .int .u16 0, .bool false, .bool false, .int .i64 0, .int .u8 0, .int .u8 0, .int .u16 0, .bool false, .int .u64 0, .int .u64 0, .bool false, .int .u64 0, .int .u64 0, .slice none 0 0]
  have be : Below w.heap.size w (w.alloc (.cells #[.int .u8 0, .int .i64 0, .int .u16 0, .bool false, .bool false, .int .i64 0, .int .u8 0, .int .u8 0, .int .u16 0, .bool false, .int .u64 0, .int .u64 0, .bool false, .int .u64 0, .int .u64 0, .slice none 0 0] 140)) := Below.allocS (Below.refl _ _) _
  go_enter Try.func128, Try.ntmps128
  go_wp2_with fail
  refine (HR.out _ (ht20.alloc _)).mono ?_
  rintro e w1 ⟨r, bs1, d1, rfl, rfl, hr1, hR⟩
  replace b2 := b2.later (below_plus _ bs1 d1)
  replace be := belowP be bs1 d1
  have hr2 : w.heap.size < r := by simp at hr1; omega
  generalize plus (w.alloc (.cells #[.int .u8 0, .int .i64 0, .int .u16 0, .bool false, .bool false, .int .i64 0, .int .u8 0, .int .u8 0, .int .u16 0, .bool false, .int .u64 0, .int .u64 0, .bool false, .int .u64 0, .int .u64 0, .slice none 0 0] 140)) bs1 d1 = W0 at *
  clear hr1
  go_wp2_with fail
  refine (byteG W0 r B 0 f hR (by omega) (by omega) x0.out).mono ?_
  clear x0
  rintro e W1 ⟨rfl, hR1, hg⟩
  replace b2 := b2.grown hg (by simp; omega)
  replace be := below_grown be hg (by omega)
  clear hR hg
  have hR := hR1
  clear hR1
  go_wp2_with fail
  refine (byteG W1 r B 1 ts hR (by omega) (by omega) x1.out).mono ?_
  clear x1
  rintro e W2 ⟨rfl, hR1, hg⟩
  replace b2 := b2.grown hg (by simp; omega)
  replace be := below_grown be hg (by omega)
  clear hR hg
  have hR := hR1
  clear hR1
  go_wp2_with fail
  refine (wordG W2 r B 2 ln hR (by omega) (by omega) x2.out).mono ?_
  clear x2
  rintro e W3 ⟨rfl, hR1, hg⟩
  replace b2 := b2.grown hg (by simp; omega)
  replace be := below_grown be hg (by omega)
  clear hR hg
  have hR := hR1
  clear hR1
  go_wp2_with fail
  refine (wordG W3 r B 4 id hR (by omega) (by omega) x3.out).mono ?_
  clear x3
  rintro e W4 ⟨rfl, hR1, hg⟩
  replace b2 := b2.grown hg (by simp; omega)
  replace be := below_grown be hg (by omega)
  clear hR hg
  have hR := hR1
  clear hR1
  have zr := hR.lt
  go_wp2_with fail
  have b8 : Bk (W4.alloc (.cells #[.int .u8 (ts : Int), .int .i64 (ln : Int), .int .u16 (id : Int), .bool false, .bool false, .int .i64 0, .int .u8 0, .int .u8 0, .int .u16 0, .bool false, .int .u64 0, .int .u64 0, .bool false, .int .u64 0, .int .u64 0, .slice none 0 0] 140)) W4.heap.size 140 [.int .u8 (ts : Int), .int .i64 (ln : Int), .int .u16 (id : Int), .bool false, .bool false, .int .i64 0, .int .u8 0, .int .u8 0, .int .u16 0, .bool false, .int .u64 0, .int .u64 0, .bool false, .int .u64 0, .int .u64 0, .slice none 0 0] := Bk.new W4 140 #[.int .u8 (ts : Int), .int .i64 (ln : Int), .int .u16 (id : Int), .bool false, .bool false, .int .i64 0, .int .u8 0, .int .u8 0, .int .u16 0, .bool false, .int .u64 0, .int .u64 0, .bool false, .int .u64 0, .int .u64 0, .slice none 0 0]
  replace b2 := b2.alloc (.cells #[.int .u8 (ts : Int), .int .i64 (ln : Int), .int .u16 (id : Int), .bool false, .bool false, .int .i64 0, .int .u8 0, .int .u8 0, .int .u16 0, .bool false, .int .u64 0, .int .u64 0, .bool false, .int .u64 0, .int .u64 0, .slice none 0 0] 140)
  replace be := Below.allocS be (.cells #[.int .u8 (ts : Int), .int .i64 (ln : Int), .int .u16 (id : Int), .bool false, .bool false, .int .i64 0, .int .u8 0, .int .u8 0, .int .u16 0, .bool false, .int .u64 0, .int .u64 0, .bool false, .int .u64 0, .int .u64 0, .slice none 0 0] 140)
  replace hR := hR.later ((Below.refl _ _).alloc (Nat.le_refl _) (.cells #[.int .u8 (ts : Int), .int .i64 (ln : Int), .int .u16 (id : Int), .bool false, .bool false, .int .i64 0, .int .u8 0, .int .u8 0, .int .u16 0, .bool false, .int .u64 0, .int .u64 0, .bool false, .int .u64 0, .int .u64 0, .slice none 0 0] 140))
  have zb := be.size
  generalize W4.alloc (.cells #[.int .u8 (ts : Int), .int .i64 (ln : Int), .int .u16 (id : Int), .bool false, .bool false, .int .i64 0, .int .u8 0, .int .u8 0, .int .u16 0, .bool false, .int .u64 0, .int .u64 0, .bool false, .int .u64 0, .int .u64 0, .slice none 0 0] 140) = V0 at *
  have zg : w.heap.size < W4.heap.size := by omega
  generalize W4.heap.size = g8 at *
  refine (wordG V0 r B 6 pl hR (by omega) (by omega) x4.out).mono ?_
  clear x4
  rintro e W5 ⟨rfl, hR1, hg⟩
  replace b2 := b2.grown hg (by simp; omega)
  replace b8 := b8.grown hg (by simp; omega)
  replace be := below_grown be hg (by omega)
  clear hR hg
  have hR := hR1
  clear hR1
  have y1 : W5.cell? ⟨g8, 1, none⟩ = some (.int .i64 (ln : Int)) := b8.cell 1
  have z8 := b8.lt
  clear zb
  go_wp2_with (refine at_op (.store 140 (.tmp 2) (.tmp 51)) rfl ?_; refine wpList_stA (t := 140) 140 (.tmp 2) (.tmp 51) rfl rfl (h4C 0 0 0 false false 0 0 0 0 false 0 0 false 0 0 none 0 0) (h4C 0 0 0 false false 0 0 0 0 false 0 0 false 0 0 none 0 0) rfl (h4C_one _ _ _ _ _ _ _ _ _ _ _ _ _ _ _ _ _ _) rfl rfl b2 (szH4 _ _ _ _ _ _ _ _ _ _ _ _ _ _ _ _ _ _) ?_; intro W9 h9 g9)
  refine bodyPost_agg3 Try.results128 rfl rfl rfl h9.range u1 u2 (szH4 _ _ _ _ _ _ _ _ _ _ _ _ _ _ _ _ _ _) rfl (RetV.mk ?_)
  exact below_grown be g9 (by omega)
end Go.Proofs.Ytfmkndemkpecpaa

/- ip4.header of well-formed bytes. -/
namespace Go.Proofs.Ytfmkndemkpecpaa
open Go.RowKit
set_option linter.unusedVariables false
set_option linter.unusedSimpArgs false
attribute [local go_sem ↓] sliced_cut

attribute [local go_sem] cutA_zero

set_option maxHeartbeats 4000000 in
set_option maxRecDepth 100000 in
theorem hdr4_l1 (A : Option Addr) (n c : Nat) (l : List UInt8) (w : World) (h : Rb w A n c l) (hm9 : n ≤ 1000000) (f ts ln id pl : Nat) (x0 : num ((l.drop 0).take 1) = f) (x1 : num ((l.drop 1).take 1) = ts) (x2 : num ((l.drop 2).take 2) = ln) (x3 : num ((l.drop 4).take 2) = id) (x4 : num ((l.drop 6).take 2) = pl) (hn : 20 ≤ n) (hb : f / 16 = 4) (hs : 20 ≤ 4 * (f % 16)) (hp9 : pl < 32768) (hl9 : 4 * (f % 16) ≤ ln) (hq : n < 4 * (f % 16)) : Calls Try.prog 128 #[.slice A n c] w (RetV w (.tuple #[.agg (h4C 0 0 0 false false 0 0 0 0 false 0 0 false 0 0 none 0 0).toArray, .int .i64 0, .int .i64 20])) := by
  obtain ⟨du, u1, u2⟩ := rowH4
  have hc := h.2.1
  have hl := h.1
  have h20n : (20 : Int) ≤ (n : Int) := by omega
  have h20c : (20 : Int) ≤ (c : Int) := by omega
  have d20 : decide ((n : Int) < 20) = false := by simp only [decide_eq_false_iff_not]; omega
  have ht20 : Rb w A 20 c (l.take 20) := h.take (by omega)
  have hf8 : f < 256 := by rw [← x0]; exact num_lt' l 0 1 256 (by decide)
  have hpl : pl < 65536 := by rw [← x4]; exact num_lt' l 6 2 65536 (by decide)
  have hln : ln < 65536 := by rw [← x2]; exact num_lt' l 2 2 65536 (by decide)
  replace x0 : Hid (num (((l.take 20).drop 0).take 1) = f) := Lib.hid (by rw [num_in l 20 0 1 (by decide)]; exact x0)
  replace x1 : Hid (num (((l.take 20).drop 1).take 1) = ts) := Lib.hid (by rw [num_in l 20 1 1 (by decide)]; exact x1)
  replace x2 : Hid (num (((l.take 20).drop 2).take 2) = ln) := Lib.hid (by rw [num_in l 20 2 2 (by decide)]; exact x2)
  replace x3 : Hid (num (((l.take 20).drop 4).take 2) = id) := Lib.hid (by rw [num_in l 20 4 2 (by decide)]; exact x3)
  replace x4 : Hid (num (((l.take 20).drop 6).take 2) = pl) := Lib.hid (by rw [num_in l 20 6 2 (by decide)]; exact x4)
  have hB : (l.take 20).length = 20 := by rw [List.length_take]; omega
  have HR := Lib.hid (fun W (h : Rb W A 20 c (l.take 20)) => readK A 20 c (l.take 20) W h (by decide))
  generalize l.take 20 = B at *
  have hB1 : B.length ≤ 20 := by omega
  have hB2 : 20 ≤ B.length := by omega
  clear hB
  obtain ⟨m, hm⟩ : ∃ m : Nat, m = f % 16 := ⟨_, rfl⟩
  have e1 := u8_and15 f hf8
  rw [← hm] at e1
  obtain ⟨sz, hsz⟩ : ∃ s : Nat, s = 4 * m := ⟨_, rfl⟩
  have e2 : IntKind.i64.wrap (4 * (m : Int)) = (sz : Int) := by rw [IntWalk.i64_in _ (by omega)]; omega
  have e3 : IntKind.i64.wrap (m : Int) = (m : Int) := IntWalk.i64_in _ (by omega)
  have e4 : IntKind.i64.wrap (ln : Int) = (ln : Int) := IntWalk.i64_in _ (by omega)
  have hb1 : (f : Int) / 16 = 4 := by omega
  have hb1n : ((f : Int) / 16 != 4) = false := by rw [hb1]; rfl
  have qd8 : decide ((sz : Int) < 20) = false := by simp only [decide_eq_false_iff_not]; omega
  have qd9 : decide (sz < 20) = false := by simp only [decide_eq_false_iff_not]; omega
  have hp0 : pl / 32768 % 2 = 0 := by omega
  have hp : bits .and .u16 (pl : Int) 32768 = 0 := by rw [and15 pl hpl, hp0]; rfl
  clear hp0
  have qd10 : decide ((ln : Int) < (sz : Int)) = false := by simp only [decide_eq_false_iff_not]; omega
  have qd11 : decide (ln < sz) = false := by simp only [decide_eq_false_iff_not]; omega
  have qd12 : decide ((n : Int) < (sz : Int)) = true := by simp only [decide_eq_true_eq]; omega
  have qd13 : decide (n < sz) = true := by simp only [decide_eq_true_eq]; omega
  clear hm hsz hb1
  have b2 : Bk (w.alloc (.cells #[.int .u8 0, .int .i64 0, .int .u16 0, .bool false, .bool false, .int .i64 0, .int .u8 0, .int .u8 0, .int .u16 0, .bool false, .int .u64 0, .int .u64 0, .bool false, .int .u64 0, .int .u64 0, .slice none 0 0] 140)) w.heap.size 140 (h4C 0 0 0 false false 0 0 0 0 false 0 0 false 0 0 none 0 0) := Bk.new w 140 #[.int .u8 0, .int .i64 0, .int .u16 0, .bool false, .bool false, .int .i64 0, .int .u8 0, .int .u8 0, .int .u16 0, .bool false, .int .u64 0, .int .u64 0, .bool false, .int .u64 0, .int .u64 0, .slice none 0 0]
  have be : Below w.heap.size w (w.alloc (.cells #[.int .u8 0, .int .i64 0, .int .u16 0, .bool false, .bool false, .int .i64 0, .int .u8 0, .int .u8 0, .int .u16 0, .bool false, .int .u64 0, .int .u64 0, .bool false, .int .u64 0, .int .u64 0, .slice none 0 0] 140)) := Below.allocS (Below.refl _ _) _
  go_enter Try.func128, Try.ntmps128
  go_wp2_with fail
  refine (HR.out _ (ht20.alloc _)).mono ?_
  rintro e w1 ⟨r, bs1, d1, rfl, rfl, hr1, hR⟩
  replace b2 := b2.later (below_plus _ bs1 d1)
  replace be := belowP be bs1 d1
  have hr2 : w.heap.size < r := by simp at hr1; omega
  generalize plus (w.alloc (.cells #[.int .u8 0, .int .i64 0, .int .u16 0, .bool false, .bool false, .int .i64 0, .int .u8 0, .int .u8 0, .int .u16 0, .bool false, .int .u64 0, .int .u64 0, .bool false, .int .u64 0, .int .u64 0, .slice none 0 0] 140)) bs1 d1 = W0 at *
  clear hr1
  go_wp2_with fail
  refine (byteG W0 r B 0 f hR (by omega) (by omega) x0.out).mono ?_
  clear x0
  rintro e W1 ⟨rfl, hR1, hg⟩
  replace b2 := b2.grown hg (by simp; omega)
  replace be := below_grown be hg (by omega)
  clear hR hg
  have hR := hR1
  clear hR1
  go_wp2_with fail
  refine (byteG W1 r B 1 ts hR (by omega) (by omega) x1.out).mono ?_
  clear x1
  rintro e W2 ⟨rfl, hR1, hg⟩
  replace b2 := b2.grown hg (by simp; omega)
  replace be := below_grown be hg (by omega)
  clear hR hg
  have hR := hR1
  clear hR1
  go_wp2_with fail
  refine (wordG W2 r B 2 ln hR (by omega) (by omega) x2.out).mono ?_
  clear x2
  rintro e W3 ⟨rfl, hR1, hg⟩
  replace b2 := b2.grown hg (by simp; omega)
  replace be := below_grown be hg (by omega)
  clear hR hg
  have hR := hR1
  clear hR1
  go_wp2_with fail
  refine (wordG W3 r B 4 id hR (by omega) (by omega) x3.out).mono ?_
  clear x3
  rintro e W4 ⟨rfl, hR1, hg⟩
  replace b2 := b2.grown hg (by simp; omega)
  replace be := below_grown be hg (by omega)
  clear hR hg
  have hR := hR1
  clear hR1
  have zr := hR.lt
  go_wp2_with fail
  have b8 : Bk (W4.alloc (.cells #[.int .u8 (ts : Int), .int .i64 (ln : Int), .int .u16 (id : Int), .bool false, .bool false, .int .i64 0, .int .u8 0, .int .u8 0, .int .u16 0, .bool false, .int .u64 0, .int .u64 0, .bool false, .int .u64 0, .int .u64 0, .slice none 0 0] 140)) W4.heap.size 140 [.int .u8 (ts : Int), .int .i64 (ln : Int), .int .u16 (id : Int), .bool false, .bool false, .int .i64 0, .int .u8 0, .int .u8 0, .int .u16 0, .bool false, .int .u64 0, .int .u64 0, .bool false, .int .u64 0, .int .u64 0, .slice none 0 0] := Bk.new W4 140 #[.int .u8 (ts : Int), .int .i64 (ln : Int), .int .u16 (id : Int), .bool false, .bool false, .int .i64 0, .int .u8 0, .int .u8 0, .int .u16 0, .bool false, .int .u64 0, .int .u64 0, .bool false, .int .u64 0, .int .u64 0, .slice none 0 0]
  replace b2 := b2.alloc (.cells #[.int .u8 (ts : Int), .int .i64 (ln : Int), .int .u16 (id : Int), .bool false, .bool false, .int .i64 0, .int .u8 0, .int .u8 0, .int .u16 0, .bool false, .int .u64 0, .int .u64 0, .bool false, .int .u64 0, .int .u64 0, .slice none 0 0] 140)
  replace be := Below.allocS be (.cells #[.int .u8 (ts : Int), .int .i64 (ln : Int), .int .u16 (id : Int), .bool false, .bool false, .int .i64 0, .int .u8 0, .int .u8 0, .int .u16 0, .bool false, .int .u64 0, .int .u64 0, .bool false, .int .u64 0, .int .u64 0, .slice none 0 0] 140)
  replace hR := hR.later ((Below.refl _ _).alloc (Nat.le_refl _) (.cells #[.int .u8 (ts : Int), .int .i64 (ln : Int), .int .u16 (id : Int), .bool false, .bool false, .int .i64 0, .int .u8 0, .int .u8 0, .int .u16 0, .bool false, .int .u64 0, .int .u64 0, .bool false, .int .u64 0, .int .u64 0, .slice none 0 0] 140))
  have zb := be.size
  generalize W4.alloc (.cells #[.int .u8 (ts : Int), .int .i64 (ln : Int), .int .u16 (id : Int), .bool false, .bool false, .int .i64 0, .int .u8 0, .int .u8 0, .int .u16 0, .bool false, .int .u64 0, .int .u64 0, .bool false, .int .u64 0, .int .u64 0, .slice none 0 0] 140) = V0 at *
  have zg : w.heap.size < W4.heap.size := by omega
  generalize W4.heap.size = g8 at *
  refine (wordG V0 r B 6 pl hR (by omega) (by omega) x4.out).mono ?_
  clear x4
  rintro e W5 ⟨rfl, hR1, hg⟩
  replace b2 := b2.grown hg (by simp; omega)
  replace b8 := b8.grown hg (by simp; omega)
  replace be := below_grown be hg (by omega)
  clear hR hg
  have hR := hR1
  clear hR1
  have y1 : W5.cell? ⟨g8, 1, none⟩ = some (.int .i64 (ln : Int)) := b8.cell 1
  have z8 := b8.lt
  clear zb
  go_wp2_with (refine at_op (.store 140 (.tmp 2) (.tmp 63)) rfl ?_; refine wpList_stA (t := 140) 140 (.tmp 2) (.tmp 63) rfl rfl (h4C 0 0 0 false false 0 0 0 0 false 0 0 false 0 0 none 0 0) (h4C 0 0 0 false false 0 0 0 0 false 0 0 false 0 0 none 0 0) rfl (h4C_one _ _ _ _ _ _ _ _ _ _ _ _ _ _ _ _ _ _) rfl rfl b2 (szH4 _ _ _ _ _ _ _ _ _ _ _ _ _ _ _ _ _ _) ?_; intro W9 h9 g9)
  refine bodyPost_agg3 Try.results128 rfl rfl rfl h9.range u1 u2 (szH4 _ _ _ _ _ _ _ _ _ _ _ _ _ _ _ _ _ _) rfl (RetV.mk ?_)
  exact below_grown be g9 (by omega)
set_option maxHeartbeats 4000000 in
set_option maxRecDepth 100000 in
theorem hdr4_l2 (A : Option Addr) (n c : Nat) (l : List UInt8) (w : World) (h : Rb w A n c l) (hm9 : n ≤ 1000000) (f ts ln id pl : Nat) (x0 : num ((l.drop 0).take 1) = f) (x1 : num ((l.drop 1).take 1) = ts) (x2 : num ((l.drop 2).take 2) = ln) (x3 : num ((l.drop 4).take 2) = id) (x4 : num ((l.drop 6).take 2) = pl) (hn : 20 ≤ n) (hb : f / 16 = 4) (hs : 20 ≤ 4 * (f % 16)) (hp9 : pl < 32768) (hl9 : 4 * (f % 16) ≤ ln) (hq0 : 4 * (f % 16) ≤ n) (hq : n < ln) : Calls Try.prog 128 #[.slice A n c] w (RetV w (.tuple #[.agg (h4C 0 0 0 false false 0 0 0 0 false 0 0 false 0 0 none 0 0).toArray, .int .i64 0, .int .i64 20])) := by
  obtain ⟨du, u1, u2⟩ := rowH4
  have hc := h.2.1
  have hl := h.1
  have h20n : (20 : Int) ≤ (n : Int) := by omega
  have h20c : (20 : Int) ≤ (c : Int) := by omega
  have d20 : decide ((n : Int) < 20) = false := by simp only [decide_eq_false_iff_not]; omega
  have ht20 : Rb w A 20 c (l.take 20) := h.take (by omega)
  have hf8 : f < 256 := by rw [← x0]; exact num_lt' l 0 1 256 (by decide)
  have hpl : pl < 65536 := by rw [← x4]; exact num_lt' l 6 2 65536 (by decide)
  have hln : ln < 65536 := by rw [← x2]; exact num_lt' l 2 2 65536 (by decide)
  replace x0 : Hid (num (((l.take 20).drop 0).take 1) = f) := Lib.hid (by rw [num_in l 20 0 1 (by decide)]; exact x0)
  replace x1 : Hid (num (((l.take 20).drop 1).take 1) = ts) := Lib.hid (by rw [num_in l 20 1 1 (by decide)]; exact x1)
  replace x2 : Hid (num (((l.take 20).drop 2).take 2) = ln) := Lib.hid (by rw [num_in l 20 2 2 (by decide)]; exact x2)
  replace x3 : Hid (num (((l.take 20).drop 4).take 2) = id) := Lib.hid (by rw [num_in l 20 4 2 (by decide)]; exact x3)
  replace x4 : Hid (num (((l.take 20).drop 6).take 2) = pl) := Lib.hid (by rw [num_in l 20 6 2 (by decide)]; exact x4)
  have hB : (l.take 20).length = 20 := by rw [List.length_take]; omega
  have HR := Lib.hid (fun W (h : Rb W A 20 c (l.take 20)) => readK A 20 c (l.take 20) W h (by decide))
  generalize l.take 20 = B at *
  have hB1 : B.length ≤ 20 := by omega
  have hB2 : 20 ≤ B.length := by omega
  clear hB
  obtain ⟨m, hm⟩ : ∃ m : Nat, m = f % 16 := ⟨_, rfl⟩
  have e1 := u8_and15 f hf8
  rw [← hm] at e1
  obtain ⟨sz, hsz⟩ : ∃ s : Nat, s = 4 * m := ⟨_, rfl⟩
  have e2 : IntKind.i64.wrap (4 * (m : Int)) = (sz : Int) := by rw [IntWalk.i64_in _ (by omega)]; omega
  have e3 : IntKind.i64.wrap (m : Int) = (m : Int) := IntWalk.i64_in _ (by omega)
  have e4 : IntKind.i64.wrap (ln : Int) = (ln : Int) := IntWalk.i64_in _ (by omega)
  have hb1 : (f : Int) / 16 = 4 := by omega
  have hb1n : ((f : Int) / 16 != 4) = false := by rw [hb1]; rfl
  have qd8 : decide ((sz : Int) < 20) = false := by simp only [decide_eq_false_iff_not]; omega
  have qd9 : decide (sz < 20) = false := by simp only [decide_eq_false_iff_not]; omega
  have hp0 : pl / 32768 % 2 = 0 := by omega
  have hp : bits .and .u16 (pl : Int) 32768 = 0 := by rw [and15 pl hpl, hp0]; rfl
  clear hp0
  have qd10 : decide ((ln : Int) < (sz : Int)) = false := by simp only [decide_eq_false_iff_not]; omega
  have qd11 : decide (ln < sz) = false := by simp only [decide_eq_false_iff_not]; omega
  have qd14 : decide ((n : Int) < (sz : Int)) = false := by simp only [decide_eq_false_iff_not]; omega
  have qd15 : decide (n < sz) = false := by simp only [decide_eq_false_iff_not]; omega
  have qd16 : decide ((n : Int) < (ln : Int)) = true := by simp only [decide_eq_true_eq]; omega
  have qd17 : decide (n < ln) = true := by simp only [decide_eq_true_eq]; omega
  clear hm hsz hb1
  have b2 : Bk (w.alloc (.cells #[.int .u8 0, .int .i64 0, .int .u16 0, .bool false, .bool false, .int .i64 0, .int .u8 0, .int .u8 0, .int .u16 0, .bool false, .int .u64 0, .int .u64 0, .bool false, .int .u64 0, .int .u64 0, .slice none 0 0] 140)) w.heap.size 140 (h4C 0 0 0 false false 0 0 0 0 false 0 0 false 0 0 none 0 0) := Bk.new w 140 #[.int .u8 0, .int .i64 0, .int .u16 0, .bool false, .bool false, .int .i64 0, .int .u8 0, .int .u8 0, .int .u16 0, .bool false, .int .u64 0, .int .u64 0, .bool false, .int .u64 0, .int .u64 0, .slice none 0 0]
  have be : Below w.heap.size w (w.alloc (.cells #[.int .u8 0, .int .i64 0, .int .u16 0, .bool false, .bool false, .int .i64 0, .int .u8 0, .int .u8 0, .int .u16 0, .bool false, .int .u64 0, .int .u64 0, .bool false, .int .u64 0, .int .u64 0, .slice none 0 0] 140)) := Below.allocS (Below.refl _ _) _
  go_enter Try.func128, Try.ntmps128
  go_wp2_with fail
  refine (HR.out _ (ht20.alloc _)).mono ?_
  rintro e w1 ⟨r, bs1, d1, rfl, rfl, hr1, hR⟩
  replace b2 := b2.later (below_plus _ bs1 d1)
  replace be := belowP be bs1 d1
  have hr2 : w.heap.size < r := by simp at hr1; omega
  generalize plus (w.alloc (.cells #[.int .u8 0, .int .i64 0, .int .u16 0, .bool false, .bool false, .int .i64 0, .int .u8 0, .int .u8 0, .int .u16 0, .bool false, .int .u64 0, .int .u64 0, .bool false, .int .u64 0, .int .u64 0, .slice none 0 0] 140)) bs1 d1 = W0 at *
  clear hr1
  go_wp2_with fail
  refine (byteG W0 r B 0 f hR (by omega) (by omega) x0.out).mono ?_
  clear x0
  rintro e W1 ⟨rfl, hR1, hg⟩
  replace b2 := b2.grown hg (by simp; omega)
  replace be := below_grown be hg (by omega)
  clear hR hg
  have hR := hR1
  clear hR1
  go_wp2_with fail
  refine (byteG W1 r B 1 ts hR (by omega) (by omega) x1.out).mono ?_
  clear x1
  rintro e W2 ⟨rfl, hR1, hg⟩
  replace b2 := b2.grown hg (by simp; omega)
  replace be := below_grown be hg (by omega)
  clear hR hg
  have hR := hR1
  clear hR1
  go_wp2_with fail
  refine (wordG W2 r B 2 ln hR (by omega) (by omega) x2.out).mono ?_
  clear x2
  rintro e W3 ⟨rfl, hR1, hg⟩
  replace b2 := b2.grown hg (by simp; omega)
  replace be := below_grown be hg (by omega)
  clear hR hg
  have hR := hR1
  clear hR1
  go_wp2_with fail
  refine (wordG W3 r B 4 id hR (by omega) (by omega) x3.out).mono ?_
  clear x3
  rintro e W4 ⟨rfl, hR1, hg⟩
  replace b2 := b2.grown hg (by simp; omega)
  replace be := below_grown be hg (by omega)
  clear hR hg
  have hR := hR1
  clear hR1
  have zr := hR.lt
  go_wp2_with fail
  have b8 : Bk (W4.alloc (.cells #[.int .u8 (ts : Int), .int .i64 (ln : Int), .int .u16 (id : Int), .bool false, .bool false, .int .i64 0, .int .u8 0, .int .u8 0, .int .u16 0, .bool false, .int .u64 0, .int .u64 0, .bool false, .int .u64 0, .int .u64 0, .slice none 0 0] 140)) W4.heap.size 140 [.int .u8 (ts : Int), .int .i64 (ln : Int), .int .u16 (id : Int), .bool false, .bool false, .int .i64 0, .int .u8 0, .int .u8 0, .int .u16 0, .bool false, .int .u64 0, .int .u64 0, .bool false, .int .u64 0, .int .u64 0, .slice none 0 0] := Bk.new W4 140 #[.int .u8 (ts : Int), .int .i64 (ln : Int), .int .u16 (id : Int), .bool false, .bool false, .int .i64 0, .int .u8 0, .int .u8 0, .int .u16 0, .bool false, .int .u64 0, .int .u64 0, .bool false, .int .u64 0, .int .u64 0, .slice none 0 0]
  replace b2 := b2.alloc (.cells #[.int .u8 (ts : Int), .int .i64 (ln : Int), .int .u16 (id : Int), .bool false, .bool false, .int .i64 0, .int .u8 0, .int .u8 0, .int .u16 0, .bool false, .int .u64 0, .int .u64 0, .bool false, .int .u64 0, .int .u64 0, .slice none 0 0] 140)
  replace be := Below.allocS be (.cells #[.int .u8 (ts : Int), .int .i64 (ln : Int), .int .u16 (id : Int), .bool false, .bool false, .int .i64 0, .int .u8 0, .int .u8 0, .int .u16 0, .bool false, .int .u64 0, .int .u64 0, .bool false, .int .u64 0, .int .u64 0, .slice none 0 0] 140)
  replace hR := hR.later ((Below.refl _ _).alloc (Nat.le_refl _) (.cells #[.int .u8 (ts : Int), .int .i64 (ln : Int), .int .u16 (id : Int), .bool false, .bool false, .int .i64 0, .int .u8 0, .int .u8 0, .int .u16 0, .bool false, .int .u64 0, .int .u64 0, .bool false, .int .u64 0, .int .u64 0, .slice none 0 0] 140))
  have zb := be.size
  generalize W4.alloc (.cells #[.int .u8 (ts : Int), .int .i64 (ln : Int), .int .u16 (id : Int), .bool false, .bool false, .int .i64 0, .int .u8 0, .int .u8 0, .int .u16 0, .bool false, .int .u64 0, .int .u64 0, .bool false, .int .u64 0, .int .u64 0, .slice none 0 0] 140) = V0 at *
  have zg : w.heap.size < W4.heap.size := by omega
  generalize W4.heap.size = g8 at *
  refine (wordG V0 r B 6 pl hR (by omega) (by omega) x4.out).mono ?_
  clear x4
  rintro e W5 ⟨rfl, hR1, hg⟩
  replace b2 := b2.grown hg (by simp; omega)
  replace b8 := b8.grown hg (by simp; omega)
  replace be := below_grown be hg (by omega)
  clear hR hg
  have hR := hR1
  clear hR1
  have y1 : W5.cell? ⟨g8, 1, none⟩ = some (.int .i64 (ln : Int)) := b8.cell 1
  have z8 := b8.lt
  clear zb
  go_wp2_with (refine at_op (.store 140 (.tmp 2) (.tmp 63)) rfl ?_; refine wpList_stA (t := 140) 140 (.tmp 2) (.tmp 63) rfl rfl (h4C 0 0 0 false false 0 0 0 0 false 0 0 false 0 0 none 0 0) (h4C 0 0 0 false false 0 0 0 0 false 0 0 false 0 0 none 0 0) rfl (h4C_one _ _ _ _ _ _ _ _ _ _ _ _ _ _ _ _ _ _) rfl rfl b2 (szH4 _ _ _ _ _ _ _ _ _ _ _ _ _ _ _ _ _ _) ?_; intro W9 h9 g9)
  refine bodyPost_agg3 Try.results128 rfl rfl rfl h9.range u1 u2 (szH4 _ _ _ _ _ _ _ _ _ _ _ _ _ _ _ _ _ _) rfl (RetV.mk ?_)
  exact below_grown be g9 (by omega)
set_option maxHeartbeats 4000000 in
set_option maxRecDepth 100000 in
theorem hdr4_sum (A : Option Addr) (n c : Nat) (l : List UInt8) (w : World) (h : Rb w A n c l) (hm9 : n ≤ 1000000) (f ts ln id pl : Nat) (x0 : num ((l.drop 0).take 1) = f) (x1 : num ((l.drop 1).take 1) = ts) (x2 : num ((l.drop 2).take 2) = ln) (x3 : num ((l.drop 4).take 2) = id) (x4 : num ((l.drop 6).take 2) = pl) (hn : 20 ≤ n) (hb : f / 16 = 4) (hs : 20 ≤ 4 * (f % 16)) (hp9 : pl < 32768) (hl9 : 4 * (f % 16) ≤ ln) (hq0 : 4 * (f % 16) ≤ n) (hq1 : ln ≤ n) (hck : 65535 - fd (tot false (l.take (4 * (f % 16)))) ≠ 0) : Calls Try.prog 128 #[.slice A n c] w (RetV w (.tuple #[.agg (h4C 0 0 0 false false 0 0 0 0 false 0 0 false 0 0 none 0 0).toArray, .int .i64 0, .int .i64 22])) := by
  obtain ⟨du, u1, u2⟩ := rowH4
  have hc := h.2.1
  have hl := h.1
  have h20n : (20 : Int) ≤ (n : Int) := by omega
  have h20c : (20 : Int) ≤ (c : Int) := by omega
  have d20 : decide ((n : Int) < 20) = false := by simp only [decide_eq_false_iff_not]; omega
  have ht20 : Rb w A 20 c (l.take 20) := h.take (by omega)
  have hf8 : f < 256 := by rw [← x0]; exact num_lt' l 0 1 256 (by decide)
  have hpl : pl < 65536 := by rw [← x4]; exact num_lt' l 6 2 65536 (by decide)
  have hln : ln < 65536 := by rw [← x2]; exact num_lt' l 2 2 65536 (by decide)
  replace x0 : Hid (num (((l.take 20).drop 0).take 1) = f) := Lib.hid (by rw [num_in l 20 0 1 (by decide)]; exact x0)
  replace x1 : Hid (num (((l.take 20).drop 1).take 1) = ts) := Lib.hid (by rw [num_in l 20 1 1 (by decide)]; exact x1)
  replace x2 : Hid (num (((l.take 20).drop 2).take 2) = ln) := Lib.hid (by rw [num_in l 20 2 2 (by decide)]; exact x2)
  replace x3 : Hid (num (((l.take 20).drop 4).take 2) = id) := Lib.hid (by rw [num_in l 20 4 2 (by decide)]; exact x3)
  replace x4 : Hid (num (((l.take 20).drop 6).take 2) = pl) := Lib.hid (by rw [num_in l 20 6 2 (by decide)]; exact x4)
  have hB : (l.take 20).length = 20 := by rw [List.length_take]; omega
  have HR := Lib.hid (fun W (h : Rb W A 20 c (l.take 20)) => readK A 20 c (l.take 20) W h (by decide))
  generalize hBB : l.take 20 = B at *
  clear hBB
  have hB1 : B.length ≤ 20 := by omega
  have hB2 : 20 ≤ B.length := by omega
  clear hB
  obtain ⟨m, hm⟩ : ∃ m : Nat, m = f % 16 := ⟨_, rfl⟩
  have e1 := u8_and15 f hf8
  rw [← hm] at e1
  obtain ⟨sz, hsz⟩ : ∃ s : Nat, s = 4 * m := ⟨_, rfl⟩
  have e2 : IntKind.i64.wrap (4 * (m : Int)) = (sz : Int) := by rw [IntWalk.i64_in _ (by omega)]; omega
  have e3 : IntKind.i64.wrap (m : Int) = (m : Int) := IntWalk.i64_in _ (by omega)
  have e4 : IntKind.i64.wrap (ln : Int) = (ln : Int) := IntWalk.i64_in _ (by omega)
  have hb1 : (f : Int) / 16 = 4 := by omega
  have hb1n : ((f : Int) / 16 != 4) = false := by rw [hb1]; rfl
  have qd8 : decide ((sz : Int) < 20) = false := by simp only [decide_eq_false_iff_not]; omega
  have qd9 : decide (sz < 20) = false := by simp only [decide_eq_false_iff_not]; omega
  have hp0 : pl / 32768 % 2 = 0 := by omega
  have hp : bits .and .u16 (pl : Int) 32768 = 0 := by rw [and15 pl hpl, hp0]; rfl
  clear hp0
  have qd10 : decide ((ln : Int) < (sz : Int)) = false := by simp only [decide_eq_false_iff_not]; omega
  have qd11 : decide (ln < sz) = false := by simp only [decide_eq_false_iff_not]; omega
  have qd18 : decide ((n : Int) < (sz : Int)) = false := by simp only [decide_eq_false_iff_not]; omega
  have qd19 : decide (n < sz) = false := by simp only [decide_eq_false_iff_not]; omega
  have qd20 : decide ((n : Int) < (ln : Int)) = false := by simp only [decide_eq_false_iff_not]; omega
  have qd21 : decide (n < ln) = false := by simp only [decide_eq_false_iff_not]; omega
  have hszn : sz ≤ n := by omega
  have hln9 : ln ≤ n := by omega
  have hszc : ((sz : Nat) : Int) ≤ (c : Int) := by omega
  have hsz0 : (0 : Int) ≤ (sz : Int) := by omega
  have hts : Rb w A sz c (l.take sz) := h.take hszn
  have hs4 : 4 * (f % 16) = sz := by omega
  have HO := Lib.hid (fun w A1 c1 (h : RdL w A1 1 [l.take sz]) => sumRight A1 1 c1 _ w h (by omega) (by simp; omega))
  have hfl : ([l.take sz] : List (List UInt8)).flatten = l.take sz := by simp
  rw [hfl] at HO
  rw [hs4] at hck
  have hck2 : (65535 - fd (tot false (l.take sz)) == 0) = false := by rw [beq_eq_false_iff_ne]; exact hck
  rw [hck2] at HO
  clear hm hsz hb1 hs4 hck hck2 hfl
  have b2 : Bk (w.alloc (.cells #[.int .u8 0, .int .i64 0, .int .u16 0, .bool false, .bool false, .int .i64 0, .int .u8 0, .int .u8 0, .int .u16 0, .bool false, .int .u64 0, .int .u64 0, .bool false, .int .u64 0, .int .u64 0, .slice none 0 0] 140)) w.heap.size 140 (h4C 0 0 0 false false 0 0 0 0 false 0 0 false 0 0 none 0 0) := Bk.new w 140 #[.int .u8 0, .int .i64 0, .int .u16 0, .bool false, .bool false, .int .i64 0, .int .u8 0, .int .u8 0, .int .u16 0, .bool false, .int .u64 0, .int .u64 0, .bool false, .int .u64 0, .int .u64 0, .slice none 0 0]
  have be : Below w.heap.size w (w.alloc (.cells #[.int .u8 0, .int .i64 0, .int .u16 0, .bool false, .bool false, .int .i64 0, .int .u8 0, .int .u8 0, .int .u16 0, .bool false, .int .u64 0, .int .u64 0, .bool false, .int .u64 0, .int .u64 0, .slice none 0 0] 140)) := Below.allocS (Below.refl _ _) _
  go_enter Try.func128, Try.ntmps128
  go_wp2_with fail
  refine (HR.out _ (ht20.alloc _)).mono ?_
  rintro e w1 ⟨r, bs1, d1, rfl, rfl, hr1, hR⟩
  replace b2 := b2.later (below_plus _ bs1 d1)
  replace be := belowP be bs1 d1
  have hr2 : w.heap.size < r := by simp at hr1; omega
  generalize plus (w.alloc (.cells #[.int .u8 0, .int .i64 0, .int .u16 0, .bool false, .bool false, .int .i64 0, .int .u8 0, .int .u8 0, .int .u16 0, .bool false, .int .u64 0, .int .u64 0, .bool false, .int .u64 0, .int .u64 0, .slice none 0 0] 140)) bs1 d1 = W0 at *
  clear hr1
  go_wp2_with fail
  refine (byteG W0 r B 0 f hR (by omega) (by omega) x0.out).mono ?_
  clear x0
  rintro e W1 ⟨rfl, hR1, hg⟩
  replace b2 := b2.grown hg (by simp; omega)
  replace be := below_grown be hg (by omega)
  clear hR hg
  have hR := hR1
  clear hR1
  go_wp2_with fail
  refine (byteG W1 r B 1 ts hR (by omega) (by omega) x1.out).mono ?_
  clear x1
  rintro e W2 ⟨rfl, hR1, hg⟩
  replace b2 := b2.grown hg (by simp; omega)
  replace be := below_grown be hg (by omega)
  clear hR hg
  have hR := hR1
  clear hR1
  go_wp2_with fail
  refine (wordG W2 r B 2 ln hR (by omega) (by omega) x2.out).mono ?_
  clear x2
  rintro e W3 ⟨rfl, hR1, hg⟩
  replace b2 := b2.grown hg (by simp; omega)
  replace be := below_grown be hg (by omega)
  clear hR hg
  have hR := hR1
  clear hR1
  go_wp2_with fail
  refine (wordG W3 r B 4 id hR (by omega) (by omega) x3.out).mono ?_
  clear x3
  rintro e W4 ⟨rfl, hR1, hg⟩
  replace b2 := b2.grown hg (by simp; omega)
  replace be := below_grown be hg (by omega)
  clear hR hg
  have hR := hR1
  clear hR1
  have zr := hR.lt
  go_wp2_with fail
  have b8 : Bk (W4.alloc (.cells #[.int .u8 (ts : Int), .int .i64 (ln : Int), .int .u16 (id : Int), .bool false, .bool false, .int .i64 0, .int .u8 0, .int .u8 0, .int .u16 0, .bool false, .int .u64 0, .int .u64 0, .bool false, .int .u64 0, .int .u64 0, .slice none 0 0] 140)) W4.heap.size 140 [.int .u8 (ts : Int), .int .i64 (ln : Int), .int .u16 (id : Int), .bool false, .bool false, .int .i64 0, .int .u8 0, .int .u8 0, .int .u16 0, .bool false, .int .u64 0, .int .u64 0, .bool false, .int .u64 0, .int .u64 0, .slice none 0 0] := Bk.new W4 140 #[.int .u8 (ts : Int), .int .i64 (ln : Int), .int .u16 (id : Int), .bool false, .bool false, .int .i64 0, .int .u8 0, .int .u8 0, .int .u16 0, .bool false, .int .u64 0, .int .u64 0, .bool false, .int .u64 0, .int .u64 0, .slice none 0 0]
  replace b2 := b2.alloc (.cells #[.int .u8 (ts : Int), .int .i64 (ln : Int), .int .u16 (id : Int), .bool false, .bool false, .int .i64 0, .int .u8 0, .int .u8 0, .int .u16 0, .bool false, .int .u64 0, .int .u64 0, .bool false, .int .u64 0, .int .u64 0, .slice none 0 0] 140)
  replace be := Below.allocS be (.cells #[.int .u8 (ts : Int), .int .i64 (ln : Int), .int .u16 (id : Int), .bool false, .bool false, .int .i64 0, .int .u8 0, .int .u8 0, .int .u16 0, .bool false, .int .u64 0, .int .u64 0, .bool false, .int .u64 0, .int .u64 0, .slice none 0 0] 140)
  replace hR := hR.later ((Below.refl _ _).alloc (Nat.le_refl _) (.cells #[.int .u8 (ts : Int), .int .i64 (ln : Int), .int .u16 (id : Int), .bool false, .bool false, .int .i64 0, .int .u8 0, .int .u8 0, .int .u16 0, .bool false, .int .u64 0, .int .u64 0, .bool false, .int .u64 0, .int .u64 0, .slice none 0 0] 140))
  have zb := be.size
  generalize W4.alloc (.cells #[.int .u8 (ts : Int), .int .i64 (ln : Int), .int .u16 (id : Int), .bool false, .bool false, .int .i64 0, .int .u8 0, .int .u8 0, .int .u16 0, .bool false, .int .u64 0, .int .u64 0, .bool false, .int .u64 0, .int .u64 0, .slice none 0 0] 140) = V0 at *
  have zg : w.heap.size < W4.heap.size := by omega
  generalize W4.heap.size = g8 at *
  refine (wordG V0 r B 6 pl hR (by omega) (by omega) x4.out).mono ?_
  clear x4
  rintro e W5 ⟨rfl, hR1, hg⟩
  replace b2 := b2.grown hg (by simp; omega)
  replace b8 := b8.grown hg (by simp; omega)
  replace be := below_grown be hg (by omega)
  clear hR hg
  have hR := hR1
  clear hR1
  have y1 : W5.cell? ⟨g8, 1, none⟩ = some (.int .i64 (ln : Int)) := b8.cell 1
  have z8 := b8.lt
  clear zb
  go_wp2_with fail
  refine (HO.out _ _ _ (RdL.litW [.slice A sz c] [l.take sz] (by simp) (.cons ⟨_, _, _, rfl, hts.later be⟩ .nil))).mono ?_
  rintro e w1 ⟨rfl, rfl⟩
  replace b2 := b2.alloc (.cells #[.slice A sz c] 22)
  replace be := Below.allocS be (.cells #[.slice A sz c] 22)
  go_wp2_with (refine at_op (.store 140 (.tmp 2) (.tmp 70)) rfl ?_; refine wpList_stA (t := 140) 140 (.tmp 2) (.tmp 70) rfl rfl (h4C 0 0 0 false false 0 0 0 0 false 0 0 false 0 0 none 0 0) (h4C 0 0 0 false false 0 0 0 0 false 0 0 false 0 0 none 0 0) rfl (h4C_one _ _ _ _ _ _ _ _ _ _ _ _ _ _ _ _ _ _) rfl rfl b2 (szH4 _ _ _ _ _ _ _ _ _ _ _ _ _ _ _ _ _ _) ?_; intro W9 h9 g9)
  refine bodyPost_agg3 Try.results128 rfl rfl rfl h9.range u1 u2 (szH4 _ _ _ _ _ _ _ _ _ _ _ _ _ _ _ _ _ _) rfl (RetV.mk ?_)
  exact below_grown be g9 (by omega)
/-- a header with its options, and its size -/
def RetHd (w : World) (ts ln id : Nat) (st mo : Bool) (fo tl pr sm sa da sz : Nat) (o : List UInt8) (e : Ending) (w' : World) : Prop := ∃ A n k bs d, e = .returned (.tuple #[.agg (h4C ts (ln : Int) id st mo (fo : Int) tl pr sm false 0 sa false 0 da A n k).toArray, .int .i64 (sz : Int), .int .i64 0]) ∧ w' = plus w bs d ∧ Ob (plus w bs d) w.heap.size A n k o
theorem RetHd.mk {w w' : World} {ts ln id : Nat} {st mo : Bool} {fo tl pr sm sa da sz : Nat} {o : List UInt8} {A : Option Addr} {n k : Nat} (h : Ob w' w.heap.size A n k o) (hb : Below w.heap.size w w') : RetHd w ts ln id st mo fo tl pr sm sa da sz o (.returned (.tuple #[.agg (h4C ts (ln : Int) id st mo (fo : Int) tl pr sm false 0 sa false 0 da A n k).toArray, .int .i64 (sz : Int), .int .i64 0])) w' := by
  obtain ⟨bs, d, rfl⟩ := plus_of hb
  exact ⟨A, n, k, bs, d, rfl, rfl, h⟩
set_option maxHeartbeats 4000000 in
set_option maxRecDepth 100000 in
theorem hdr4_ok (A : Option Addr) (n c : Nat) (l : List UInt8) (w : World) (h : Rb w A n c l) (hm9 : n ≤ 1000000) (f ts ln id pl tl pr sm sa da : Nat) (st mo : Bool) (x0 : num ((l.drop 0).take 1) = f) (x1 : num ((l.drop 1).take 1) = ts) (x2 : num ((l.drop 2).take 2) = ln) (x3 : num ((l.drop 4).take 2) = id) (x4 : num ((l.drop 6).take 2) = pl) (x5 : num ((l.drop 8).take 1) = tl) (x6 : num ((l.drop 9).take 1) = pr) (x7 : num ((l.drop 10).take 2) = sm) (x8 : num ((l.drop 12).take 4) = sa) (x9 : num ((l.drop 16).take 4) = da) (hst : (pl / 16384 % 2 == 1) = st) (hmo : (pl / 8192 % 2 == 1) = mo) (hn : 20 ≤ n) (hb : f / 16 = 4) (hs : 20 ≤ 4 * (f % 16)) (hp9 : pl < 32768) (hl9 : 4 * (f % 16) ≤ ln) (hq0 : 4 * (f % 16) ≤ n) (hq1 : ln ≤ n) (hck : 65535 - fd (tot false (l.take (4 * (f % 16)))) = 0) : Calls Try.prog 128 #[.slice A n c] w (RetHd w ts ln id st mo (pl % 8192) tl pr sm sa da (4 * (f % 16)) ((l.drop 20).take (4 * (f % 16) - 20))) := by
  obtain ⟨du, u1, u2⟩ := rowH4
  have hc := h.2.1
  have hl := h.1
  have h20n : (20 : Int) ≤ (n : Int) := by omega
  have h20c : (20 : Int) ≤ (c : Int) := by omega
  have d20 : decide ((n : Int) < 20) = false := by simp only [decide_eq_false_iff_not]; omega
  have ht20 : Rb w A 20 c (l.take 20) := h.take (by omega)
  have hf8 : f < 256 := by rw [← x0]; exact num_lt' l 0 1 256 (by decide)
  have hpl : pl < 65536 := by rw [← x4]; exact num_lt' l 6 2 65536 (by decide)
  have hln : ln < 65536 := by rw [← x2]; exact num_lt' l 2 2 65536 (by decide)
  replace x0 : Hid (num (((l.take 20).drop 0).take 1) = f) := Lib.hid (by rw [num_in l 20 0 1 (by decide)]; exact x0)
  replace x1 : Hid (num (((l.take 20).drop 1).take 1) = ts) := Lib.hid (by rw [num_in l 20 1 1 (by decide)]; exact x1)
  replace x2 : Hid (num (((l.take 20).drop 2).take 2) = ln) := Lib.hid (by rw [num_in l 20 2 2 (by decide)]; exact x2)
  replace x3 : Hid (num (((l.take 20).drop 4).take 2) = id) := Lib.hid (by rw [num_in l 20 4 2 (by decide)]; exact x3)
  replace x4 : Hid (num (((l.take 20).drop 6).take 2) = pl) := Lib.hid (by rw [num_in l 20 6 2 (by decide)]; exact x4)
  replace x5 : Hid (num (((l.take 20).drop 8).take 1) = tl) := Lib.hid (by rw [num_in l 20 8 1 (by decide)]; exact x5)
  replace x6 : Hid (num (((l.take 20).drop 9).take 1) = pr) := Lib.hid (by rw [num_in l 20 9 1 (by decide)]; exact x6)
  replace x7 : Hid (num (((l.take 20).drop 10).take 2) = sm) := Lib.hid (by rw [num_in l 20 10 2 (by decide)]; exact x7)
  replace x8 : Hid (num (((l.take 20).drop 12).take 4) = sa) := Lib.hid (by rw [num_in l 20 12 4 (by decide)]; exact x8)
  replace x9 : Hid (num (((l.take 20).drop 16).take 4) = da) := Lib.hid (by rw [num_in l 20 16 4 (by decide)]; exact x9)
  have hB : (l.take 20).length = 20 := by rw [List.length_take]; omega
  have HR := Lib.hid (fun W (h : Rb W A 20 c (l.take 20)) => readK A 20 c (l.take 20) W h (by decide))
  generalize l.take 20 = B at *
  have hB1 : B.length ≤ 20 := by omega
  have hB2 : 20 ≤ B.length := by omega
  clear hB
  obtain ⟨m, hm⟩ : ∃ m : Nat, m = f % 16 := ⟨_, rfl⟩
  have e1 := u8_and15 f hf8
  rw [← hm] at e1
  obtain ⟨sz, hsz⟩ : ∃ s : Nat, s = 4 * m := ⟨_, rfl⟩
  have e2 : IntKind.i64.wrap (4 * (m : Int)) = (sz : Int) := by rw [IntWalk.i64_in _ (by omega)]; omega
  have e3 : IntKind.i64.wrap (m : Int) = (m : Int) := IntWalk.i64_in _ (by omega)
  have e4 : IntKind.i64.wrap (ln : Int) = (ln : Int) := IntWalk.i64_in _ (by omega)
  have hb1 : (f : Int) / 16 = 4 := by omega
  have hb1n : ((f : Int) / 16 != 4) = false := by rw [hb1]; rfl
  have qd8 : decide ((sz : Int) < 20) = false := by simp only [decide_eq_false_iff_not]; omega
  have qd9 : decide (sz < 20) = false := by simp only [decide_eq_false_iff_not]; omega
  have hp0 : pl / 32768 % 2 = 0 := by omega
  have hp : bits .and .u16 (pl : Int) 32768 = 0 := by rw [and15 pl hpl, hp0]; rfl
  clear hp0
  have qd10 : decide ((ln : Int) < (sz : Int)) = false := by simp only [decide_eq_false_iff_not]; omega
  have qd11 : decide (ln < sz) = false := by simp only [decide_eq_false_iff_not]; omega
  have qd22 : decide ((n : Int) < (sz : Int)) = false := by simp only [decide_eq_false_iff_not]; omega
  have qd23 : decide (n < sz) = false := by simp only [decide_eq_false_iff_not]; omega
  have qd24 : decide ((n : Int) < (ln : Int)) = false := by simp only [decide_eq_false_iff_not]; omega
  have qd25 : decide (n < ln) = false := by simp only [decide_eq_false_iff_not]; omega
  have hszn : sz ≤ n := by omega
  have hln9 : ln ≤ n := by omega
  have hszc : ((sz : Nat) : Int) ≤ (c : Int) := by omega
  have hsz0 : (0 : Int) ≤ (sz : Int) := by omega
  have hts : Rb w A sz c (l.take sz) := h.take hszn
  have hs4 : 4 * (f % 16) = sz := by omega
  have HO := Lib.hid (fun w A1 c1 (h : RdL w A1 1 [l.take sz]) => sumRight A1 1 c1 _ w h (by omega) (by simp; omega))
  have hfl : ([l.take sz] : List (List UInt8)).flatten = l.take sz := by simp
  rw [hfl] at HO
  rw [hs4] at hck
  have hck2 : (65535 - fd (tot false (l.take sz)) == 0) = true := by rw [beq_iff_eq]; exact hck
  rw [hck2] at HO
  have ho0 : Rb w (cutA A c 20 1) (sz - 20) (c - 20) ((l.drop 20).take (sz - 20)) := (h.cut (k := 20) (by omega)).take (by omega)
  have v1 : (bits .and .u16 (pl : Int) 16384 != 0) = st := by rw [← hst, and14 pl hpl]; rcases Nat.mod_two_eq_zero_or_one (pl / 16384) with h0 | h0 <;> simp [h0]
  have v2 : (bits .and .u16 (pl : Int) 8192 != 0) = mo := by rw [← hmo, and13 pl hpl]; rcases Nat.mod_two_eq_zero_or_one (pl / 8192) with h0 | h0 <;> simp [h0]
  have v3 := and8191 pl hpl
  have hfo : pl % 8192 < 65536 := by omega
  generalize pl % 8192 = fo at *
  have v4 : IntKind.i64.wrap (fo : Int) = (fo : Int) := IntWalk.i64_in _ (by omega)
  have hsa : sa < 4294967296 := by rw [← x8.out]; exact num_lt' _ 12 4 4294967296 (by decide)
  have hda : da < 4294967296 := by rw [← x9.out]; exact num_lt' _ 16 4 4294967296 (by decide)
  have v5 : IntKind.u64.wrap (sa : Int) = (sa : Int) := IntWalk.u64_in _ (by omega)
  have v6 : IntKind.u64.wrap (da : Int) = (da : Int) := IntWalk.u64_in _ (by omega)
  have j1 : (20 : Int) ≤ (sz : Int) := by omega
  have HC := Lib.hid (fun w (h : Rb w (cutA A c 20 1) (sz - 20) (c - 20) ((l.drop 20).take (sz - 20))) => clone_any _ _ _ _ w h (by omega))
  have hs9 := Lib.hid hs4
  clear hm hsz hb1 hs4 hck hck2 hfl hst hmo
  have b2 : Bk (w.alloc (.cells #[.int .u8 0, .int .i64 0, .int .u16 0, .bool false, .bool false, .int .i64 0, .int .u8 0, .int .u8 0, .int .u16 0, .bool false, .int .u64 0, .int .u64 0, .bool false, .int .u64 0, .int .u64 0, .slice none 0 0] 140)) w.heap.size 140 (h4C 0 0 0 false false 0 0 0 0 false 0 0 false 0 0 none 0 0) := Bk.new w 140 #[.int .u8 0, .int .i64 0, .int .u16 0, .bool false, .bool false, .int .i64 0, .int .u8 0, .int .u8 0, .int .u16 0, .bool false, .int .u64 0, .int .u64 0, .bool false, .int .u64 0, .int .u64 0, .slice none 0 0]
  have be : Below w.heap.size w (w.alloc (.cells #[.int .u8 0, .int .i64 0, .int .u16 0, .bool false, .bool false, .int .i64 0, .int .u8 0, .int .u8 0, .int .u16 0, .bool false, .int .u64 0, .int .u64 0, .bool false, .int .u64 0, .int .u64 0, .slice none 0 0] 140)) := Below.allocS (Below.refl _ _) _
  go_enter Try.func128, Try.ntmps128
  go_wp2_with fail
  refine (HR.out _ (ht20.alloc _)).mono ?_
  rintro e w1 ⟨r, bs1, d1, rfl, rfl, hr1, hR⟩
  replace b2 := b2.later (below_plus _ bs1 d1)
  replace be := belowP be bs1 d1
  have hr2 : w.heap.size < r := by simp at hr1; omega
  generalize plus (w.alloc (.cells #[.int .u8 0, .int .i64 0, .int .u16 0, .bool false, .bool false, .int .i64 0, .int .u8 0, .int .u8 0, .int .u16 0, .bool false, .int .u64 0, .int .u64 0, .bool false, .int .u64 0, .int .u64 0, .slice none 0 0] 140)) bs1 d1 = W0 at *
  clear hr1
  go_wp2_with fail
  refine (byteG W0 r B 0 f hR (by omega) (by omega) x0.out).mono ?_
  clear x0
  rintro e W1 ⟨rfl, hR1, hg⟩
  replace b2 := b2.grown hg (by simp; omega)
  replace be := below_grown be hg (by omega)
  clear hR hg
  have hR := hR1
  clear hR1
  go_wp2_with fail
  refine (byteG W1 r B 1 ts hR (by omega) (by omega) x1.out).mono ?_
  clear x1
  rintro e W2 ⟨rfl, hR1, hg⟩
  replace b2 := b2.grown hg (by simp; omega)
  replace be := below_grown be hg (by omega)
  clear hR hg
  have hR := hR1
  clear hR1
  go_wp2_with fail
  refine (wordG W2 r B 2 ln hR (by omega) (by omega) x2.out).mono ?_
  clear x2
  rintro e W3 ⟨rfl, hR1, hg⟩
  replace b2 := b2.grown hg (by simp; omega)
  replace be := below_grown be hg (by omega)
  clear hR hg
  have hR := hR1
  clear hR1
  go_wp2_with fail
  refine (wordG W3 r B 4 id hR (by omega) (by omega) x3.out).mono ?_
  clear x3
  rintro e W4 ⟨rfl, hR1, hg⟩
  replace b2 := b2.grown hg (by simp; omega)
  replace be := below_grown be hg (by omega)
  clear hR hg
  have hR := hR1
  clear hR1
  have zr := hR.lt
  go_wp2_with fail
  have b8 : Bk (W4.alloc (.cells #[.int .u8 (ts : Int), .int .i64 (ln : Int), .int .u16 (id : Int), .bool false, .bool false, .int .i64 0, .int .u8 0, .int .u8 0, .int .u16 0, .bool false, .int .u64 0, .int .u64 0, .bool false, .int .u64 0, .int .u64 0, .slice none 0 0] 140)) W4.heap.size 140 [.int .u8 (ts : Int), .int .i64 (ln : Int), .int .u16 (id : Int), .bool false, .bool false, .int .i64 0, .int .u8 0, .int .u8 0, .int .u16 0, .bool false, .int .u64 0, .int .u64 0, .bool false, .int .u64 0, .int .u64 0, .slice none 0 0] := Bk.new W4 140 #[.int .u8 (ts : Int), .int .i64 (ln : Int), .int .u16 (id : Int), .bool false, .bool false, .int .i64 0, .int .u8 0, .int .u8 0, .int .u16 0, .bool false, .int .u64 0, .int .u64 0, .bool false, .int .u64 0, .int .u64 0, .slice none 0 0]
  replace b2 := b2.alloc (.cells #[.int .u8 (ts : Int), .int .i64 (ln : Int), .int .u16 (id : Int), .bool false, .bool false, .int .i64 0, .int .u8 0, .int .u8 0, .int .u16 0, .bool false, .int .u64 0, .int .u64 0, .bool false, .int .u64 0, .int .u64 0, .slice none 0 0] 140)
  replace be := Below.allocS be (.cells #[.int .u8 (ts : Int), .int .i64 (ln : Int), .int .u16 (id : Int), .bool false, .bool false, .int .i64 0, .int .u8 0, .int .u8 0, .int .u16 0, .bool false, .int .u64 0, .int .u64 0, .bool false, .int .u64 0, .int .u64 0, .slice none 0 0] 140)
  replace hR := hR.later ((Below.refl _ _).alloc (Nat.le_refl _) (.cells #[.int .u8 (ts : Int), .int .i64 (ln : Int), .int .u16 (id : Int), .bool false, .bool false, .int .i64 0, .int .u8 0, .int .u8 0, .int .u16 0, .bool false, .int .u64 0, .int .u64 0, .bool false, .int .u64 0, .int .u64 0, .slice none 0 0] 140))
  have zb := be.size
  generalize W4.alloc (.cells #[.int .u8 (ts : Int), .int .i64 (ln : Int), .int .u16 (id : Int), .bool false, .bool false, .int .i64 0, .int .u8 0, .int .u8 0, .int .u16 0, .bool false, .int .u64 0, .int .u64 0, .bool false, .int .u64 0, .int .u64 0, .slice none 0 0] 140) = V0 at *
  have zg : w.heap.size < W4.heap.size := by omega
  generalize W4.heap.size = g8 at *
  refine (wordG V0 r B 6 pl hR (by omega) (by omega) x4.out).mono ?_
  clear x4
  rintro e W5 ⟨rfl, hR1, hg⟩
  replace b2 := b2.grown hg (by simp; omega)
  replace b8 := b8.grown hg (by simp; omega)
  replace be := below_grown be hg (by omega)
  clear hR hg
  have hR := hR1
  clear hR1
  have y1 : W5.cell? ⟨g8, 1, none⟩ = some (.int .i64 (ln : Int)) := b8.cell 1
  have z8 := b8.lt
  clear zb
  go_wp2_with fail
  refine (HO.out _ _ _ (RdL.litW [.slice A sz c] [l.take sz] (by simp) (.cons ⟨_, _, _, rfl, hts.later be⟩ .nil))).mono ?_
  rintro e w1 ⟨rfl, rfl⟩
  replace b2 := b2.alloc (.cells #[.slice A sz c] 22)
  replace b8 := b8.alloc (.cells #[.slice A sz c] 22)
  replace hR := hR.later ((Below.refl _ _).alloc (Nat.le_refl _) (.cells #[.slice A sz c] 22))
  replace be := Below.allocS be (.cells #[.slice A sz c] 22)
  clear y1 z8
  generalize W5.alloc (.cells #[.slice A sz c] 22) = V1 at *
  have q := b8.cell 3
  have fr := b8.frozen 3
  have z8 := b8.lt
  simp only [List.getElem?_cons_succ, List.getElem?_cons_zero] at q
  go_upto_region 15 with (fail)
  replace b8 := b8.set_ 3 (.bool st)
  replace b2 := b2.far (p := ⟨g8, 3, none⟩) (by simp; omega) (.bool st)
  replace hR := hR.far (p := ⟨g8, 3, none⟩) (by simp; omega) (.bool st)
  replace be := be.setCell (p := ⟨g8, 3, none⟩) (by simp; omega) (.bool st)
  simp only [List.set_cons_succ, List.set_cons_zero] at b8
  clear q fr z8
  generalize V1.setCell ⟨g8, 3, none⟩ (.bool st) = W6 at *
  have q := b8.cell 4
  have fr := b8.frozen 4
  have z8 := b8.lt
  simp only [List.getElem?_cons_succ, List.getElem?_cons_zero] at q
  go_upto_region 16 with (fail)
  replace b8 := b8.set_ 4 (.bool mo)
  replace b2 := b2.far (p := ⟨g8, 4, none⟩) (by simp; omega) (.bool mo)
  replace hR := hR.far (p := ⟨g8, 4, none⟩) (by simp; omega) (.bool mo)
  replace be := be.setCell (p := ⟨g8, 4, none⟩) (by simp; omega) (.bool mo)
  simp only [List.set_cons_succ, List.set_cons_zero] at b8
  clear q fr z8
  generalize W6.setCell ⟨g8, 4, none⟩ (.bool mo) = W7 at *
  have q := b8.cell 5
  have fr := b8.frozen 5
  have z8 := b8.lt
  simp only [List.getElem?_cons_succ, List.getElem?_cons_zero] at q
  go_upto_region 17 with (fail)
  replace b8 := b8.set_ 5 (.int .i64 (fo : Int))
  replace b2 := b2.far (p := ⟨g8, 5, none⟩) (by simp; omega) (.int .i64 (fo : Int))
  replace hR := hR.far (p := ⟨g8, 5, none⟩) (by simp; omega) (.int .i64 (fo : Int))
  replace be := be.setCell (p := ⟨g8, 5, none⟩) (by simp; omega) (.int .i64 (fo : Int))
  simp only [List.set_cons_succ, List.set_cons_zero] at b8
  clear q fr z8
  generalize W7.setCell ⟨g8, 5, none⟩ (.int .i64 (fo : Int)) = W8 at *
  go_wp2_with fail
  refine (byteG W8 r B 8 tl hR (by omega) (by omega) x5.out).mono ?_
  clear x5
  rintro e W9 ⟨rfl, hR1, hg⟩
  replace b2 := b2.grown hg (by simp; omega)
  replace b8 := b8.grown hg (by simp; omega)
  replace be := below_grown be hg (by omega)
  clear hR hg
  have hR := hR1
  clear hR1
  have q := b8.cell 6
  have fr := b8.frozen 6
  have z8 := b8.lt
  simp only [List.getElem?_cons_succ, List.getElem?_cons_zero] at q
  go_upto_region 18 with (fail)
  replace b8 := b8.set_ 6 (.int .u8 (tl : Int))
  replace b2 := b2.far (p := ⟨g8, 6, none⟩) (by simp; omega) (.int .u8 (tl : Int))
  replace hR := hR.far (p := ⟨g8, 6, none⟩) (by simp; omega) (.int .u8 (tl : Int))
  replace be := be.setCell (p := ⟨g8, 6, none⟩) (by simp; omega) (.int .u8 (tl : Int))
  simp only [List.set_cons_succ, List.set_cons_zero] at b8
  clear q fr z8
  generalize W9.setCell ⟨g8, 6, none⟩ (.int .u8 (tl : Int)) = W10 at *
  go_wp2_with fail
  refine (byteG W10 r B 9 pr hR (by omega) (by omega) x6.out).mono ?_
  clear x6
  rintro e W11 ⟨rfl, hR1, hg⟩
  replace b2 := b2.grown hg (by simp; omega)
  replace b8 := b8.grown hg (by simp; omega)
  replace be := below_grown be hg (by omega)
  clear hR hg
  have hR := hR1
  clear hR1
  have q := b8.cell 7
  have fr := b8.frozen 7
  have z8 := b8.lt
  simp only [List.getElem?_cons_succ, List.getElem?_cons_zero] at q
  go_upto_region 19 with (fail)
  replace b8 := b8.set_ 7 (.int .u8 (pr : Int))
  replace b2 := b2.far (p := ⟨g8, 7, none⟩) (by simp; omega) (.int .u8 (pr : Int))
  replace hR := hR.far (p := ⟨g8, 7, none⟩) (by simp; omega) (.int .u8 (pr : Int))
  replace be := be.setCell (p := ⟨g8, 7, none⟩) (by simp; omega) (.int .u8 (pr : Int))
  simp only [List.set_cons_succ, List.set_cons_zero] at b8
  clear q fr z8
  generalize W11.setCell ⟨g8, 7, none⟩ (.int .u8 (pr : Int)) = W12 at *
  go_wp2_with fail
  refine (wordG W12 r B 10 sm hR (by omega) (by omega) x7.out).mono ?_
  clear x7
  rintro e W13 ⟨rfl, hR1, hg⟩
  replace b2 := b2.grown hg (by simp; omega)
  replace b8 := b8.grown hg (by simp; omega)
  replace be := below_grown be hg (by omega)
  clear hR hg
  have hR := hR1
  clear hR1
  have q := b8.cell 8
  have fr := b8.frozen 8
  have z8 := b8.lt
  simp only [List.getElem?_cons_succ, List.getElem?_cons_zero] at q
  go_upto_region 20 with (fail)
  replace b8 := b8.set_ 8 (.int .u16 (sm : Int))
  replace b2 := b2.far (p := ⟨g8, 8, none⟩) (by simp; omega) (.int .u16 (sm : Int))
  replace hR := hR.far (p := ⟨g8, 8, none⟩) (by simp; omega) (.int .u16 (sm : Int))
  replace be := be.setCell (p := ⟨g8, 8, none⟩) (by simp; omega) (.int .u16 (sm : Int))
  simp only [List.set_cons_succ, List.set_cons_zero] at b8
  clear q fr z8
  generalize W13.setCell ⟨g8, 8, none⟩ (.int .u16 (sm : Int)) = W14 at *
  go_wp2_with fail
  refine (longG W14 r B 12 sa hR (by omega) (by omega) x8.out).mono ?_
  clear x8
  rintro e W15 ⟨rfl, hR1, hg⟩
  replace b2 := b2.grown hg (by simp; omega)
  replace b8 := b8.grown hg (by simp; omega)
  replace be := below_grown be hg (by omega)
  clear hR hg
  have hR := hR1
  clear hR1
  have z8 := b8.lt
  have zr := hR.lt
  go_upto_region 21 with (refine at_op (.store 26 (.tmp 96) (.tmp 95)) rfl ?_; refine wpList_stM (t := 140) 26 (.tmp 96) (.tmp 95) rfl rfl (adC false 0 sa) _ (by simp [adC]) (adC_one _ _ _) rfl rfl b8 (szAd _ _ _) ?_; intro W16 b8' hg3)
  simp only [splice, adC, List.take_succ_cons, List.take_zero, List.drop_succ_cons, List.drop_zero, List.length_cons, List.length_nil, Nat.zero_add, Nat.reduceAdd, List.cons_append, List.nil_append] at b8'
  replace b2 := b2.grown hg3 (by simp; omega)
  replace hR := hR.far_ hg3 (by omega)
  replace be := below_grown be hg3 (by omega)
  clear b8 hg3 z8 zr
  have b8 := b8'
  clear b8'
  go_wp2_with fail
  refine (longG W16 r B 16 da hR (by omega) (by omega) x9.out).mono ?_
  clear x9
  rintro e W17 ⟨rfl, hR1, hg⟩
  replace b2 := b2.grown hg (by simp; omega)
  replace b8 := b8.grown hg (by simp; omega)
  replace be := below_grown be hg (by omega)
  clear hR hg
  have hR := hR1
  clear hR1
  have z8 := b8.lt
  have zr := hR.lt
  go_upto_region 22 with (refine at_op (.store 26 (.tmp 101) (.tmp 100)) rfl ?_; refine wpList_stM (t := 140) 26 (.tmp 101) (.tmp 100) rfl rfl (adC false 0 da) _ (by simp [adC]) (adC_one _ _ _) rfl rfl b8 (szAd _ _ _) ?_; intro W18 b8' hg3)
  simp only [splice, adC, List.take_succ_cons, List.take_zero, List.drop_succ_cons, List.drop_zero, List.length_cons, List.length_nil, Nat.zero_add, Nat.reduceAdd, List.cons_append, List.nil_append] at b8'
  replace b2 := b2.grown hg3 (by simp; omega)
  replace hR := hR.far_ hg3 (by omega)
  replace be := below_grown be hg3 (by omega)
  clear b8 hg3 z8 zr
  have b8 := b8'
  clear b8'
  go_wp2_with fail
  refine (HC.out _ (ho0.later be)).mono ?_
  rintro e w1 ⟨Ao, no, ko, bso, mo9, rfl, rfl, hoo⟩
  have z8 := b8.lt
  have z2 := b2.lt
  have zo8 : ∀ b, (Value.slice Ao no ko).ownBlock = some b → b ≠ g8 := fun b hb => by have := (hoo.blk b hb).1; omega
  have zo2 : ∀ b, (Value.slice Ao no ko).ownBlock = some b → b ≠ w.heap.size := fun b hb => by have := (hoo.blk b hb).1; omega
  clear z8 z2
  replace b2 := b2.later (below_plus _ bso mo9)
  replace b8 := b8.later (below_plus _ bso mo9)
  replace hR := hR.later (below_plus _ bso mo9)
  have zbe := be.size
  replace be := belowP be bso mo9
  replace hoo := hoo.mono (base' := w.heap.size) zbe
  generalize plus W18 bso mo9 = V2 at *
  have q := b8.cell 15
  have fr := b8.frozen 15
  have z8 := b8.lt
  simp only [List.getElem?_cons_succ, List.getElem?_cons_zero] at q
  go_upto_region 23 with (fail)
  replace b8 := b8.set_ 15 (.slice Ao no ko)
  replace b2 := b2.far (p := ⟨g8, 15, none⟩) (by simp; omega) (.slice Ao no ko)
  replace hR := hR.far (p := ⟨g8, 15, none⟩) (by simp; omega) (.slice Ao no ko)
  replace be := be.setCell (p := ⟨g8, 15, none⟩) (by simp; omega) (.slice Ao no ko)
  simp only [List.set_cons_succ, List.set_cons_zero] at b8
  clear q fr z8
  replace hoo := hoo.grown (grownBy_setCell V2 g8 15 (.slice Ao no ko)) (fun b hb e => zo8 b hb (by injection e with e; exact e.symm))
  generalize V2.setCell ⟨g8, 15, none⟩ (.slice Ao no ko) = W19 at *
  go_wp2_with (first
    | (refine at_op (.load 140 (.tmp 8)) rfl ?_; refine wpList_ldA (t := 140) 140 (.tmp 8) rfl rfl (h4C ts (ln : Int) id st mo (fo : Int) tl pr sm false 0 sa false 0 da Ao no ko) rfl (b8) (whole_ _) u1 u2 (szH4 _ _ _ _ _ _ _ _ _ _ _ _ _ _ _ _ _ _) ?_)
    | (refine at_op (.store 140 (.tmp 2) (.tmp 107)) rfl ?_; refine wpList_stA (t := 140) 140 (.tmp 2) (.tmp 107) rfl rfl (h4C ts (ln : Int) id st mo (fo : Int) tl pr sm false 0 sa false 0 da Ao no ko) (h4C 0 0 0 false false 0 0 0 0 false 0 0 false 0 0 none 0 0) rfl (h4C_one _ _ _ _ _ _ _ _ _ _ _ _ _ _ _ _ _ _) rfl rfl b2 (szH4 _ _ _ _ _ _ _ _ _ _ _ _ _ _ _ _ _ _) ?_; intro W9 h9 g9))
  replace hoo := hoo.grown g9 (fun b hb e => zo2 b hb (by injection e with e; exact e.symm))
  rw [hs9.out]
  refine bodyPost_agg3 Try.results128 rfl rfl rfl h9.range u1 u2 (szH4 _ _ _ _ _ _ _ _ _ _ _ _ _ _ _ _ _ _) rfl (RetHd.mk hoo ?_)
  exact below_grown be g9 (by omega)
end Go.Proofs.Ytfmkndemkpecpaa

/- ip4.Parse. -/
namespace Go.Proofs.Ytfmkndemkpecpaa
open Go.RowKit
set_option linter.unusedVariables false
set_option linter.unusedSimpArgs false
attribute [local go_sem ↓] sliced_cut

attribute [local go_sem] cutA_zero

/-- a header, the bytes behind it, no error -/
def RetP4 (w : World) (ts ln id : Nat) (st mo : Bool) (fo tl pr sm sa da : Nat) (o load : List UInt8) (e : Ending) (w' : World) : Prop := ∃ A n k A2 n2 k2 bs d, e = .returned (.tuple #[.agg (h4C ts (ln : Int) id st mo (fo : Int) tl pr sm false 0 sa false 0 da A n k).toArray, .slice A2 n2 k2, .int .i64 0]) ∧ w' = plus w bs d ∧ Rb (plus w bs d) A n k o ∧ Rb (plus w bs d) A2 n2 k2 load ∧ ∀ a, A2 = some a → w.heap.size ≤ a.block
theorem Ob.fresh {w : World} {w0 base : Nat} {A : Option Addr} {n c : Nat} {l : List UInt8} (h : Ob w base A n c l) (hb : w0 ≤ base) : ∀ a, A = some a → w0 ≤ a.block := fun a ha => by
  subst ha
  have := (h.blk a.block rfl).1
  omega
theorem RetP4.mk {w w' : World} {ts ln id : Nat} {st mo : Bool} {fo tl pr sm sa da : Nat} {o load : List UInt8} {A : Option Addr} {n k : Nat} {A2 : Option Addr} {n2 k2 : Nat} (h : Rb w' A n k o) (h2 : Rb w' A2 n2 k2 load) (hf : ∀ a, A2 = some a → w.heap.size ≤ a.block) (hb : Below w.heap.size w w') : RetP4 w ts ln id st mo fo tl pr sm sa da o load (.returned (.tuple #[.agg (h4C ts (ln : Int) id st mo (fo : Int) tl pr sm false 0 sa false 0 da A n k).toArray, .slice A2 n2 k2, .int .i64 0])) w' := by
  obtain ⟨bs, d, rfl⟩ := plus_of hb
  exact ⟨A, n, k, A2, n2, k2, bs, d, rfl, rfl, h, h2, hf⟩
set_option maxHeartbeats 4000000 in
set_option maxRecDepth 100000 in
theorem parse4_err (A : Option Addr) (n c : Nat) (E : Int) (w : World) (hE : (E != 0) = true) (HH : ∀ w', Below w.heap.size w w' → Calls Try.prog 128 #[.slice A n c] w' (RetV w' (.tuple #[.agg (h4C 0 0 0 false false 0 0 0 0 false 0 0 false 0 0 none 0 0).toArray, .int .i64 0, .int .i64 E]))) : Calls Try.prog 72 #[.slice A n c] w (RetV w (.tuple #[.agg (h4C 0 0 0 false false 0 0 0 0 false 0 0 false 0 0 none 0 0).toArray, .slice none 0 0, .int .i64 E])) := by
  obtain ⟨du, u1, u2⟩ := rowH4
  replace HH := Lib.hid HH
  have b2 : Bk (w.alloc (.cells #[.int .u8 0, .int .i64 0, .int .u16 0, .bool false, .bool false, .int .i64 0, .int .u8 0, .int .u8 0, .int .u16 0, .bool false, .int .u64 0, .int .u64 0, .bool false, .int .u64 0, .int .u64 0, .slice none 0 0] 140)) w.heap.size 140 (h4C 0 0 0 false false 0 0 0 0 false 0 0 false 0 0 none 0 0) := Bk.new w 140 #[.int .u8 0, .int .i64 0, .int .u16 0, .bool false, .bool false, .int .i64 0, .int .u8 0, .int .u8 0, .int .u16 0, .bool false, .int .u64 0, .int .u64 0, .bool false, .int .u64 0, .int .u64 0, .slice none 0 0]
  have be : Below w.heap.size w (w.alloc (.cells #[.int .u8 0, .int .i64 0, .int .u16 0, .bool false, .bool false, .int .i64 0, .int .u8 0, .int .u8 0, .int .u16 0, .bool false, .int .u64 0, .int .u64 0, .bool false, .int .u64 0, .int .u64 0, .slice none 0 0] 140)) := Below.allocS (Below.refl _ _) _
  go_enter Try.func72, Try.ntmps72
  go_wp2_with fail
  refine (HH.out _ be).mono ?_
  rintro e w1 ⟨bs1, d1, rfl, rfl⟩
  go_upto_region 2 with (refine at_op (.store 140 (.tmp 5) (.tmp 11)) rfl ?_; refine wpList_stA (t := 140) 140 (.tmp 5) (.tmp 11) rfl rfl (h4C 0 0 0 false false 0 0 0 0 false 0 0 false 0 0 none 0 0) (h4C 0 0 0 false false 0 0 0 0 false 0 0 false 0 0 none 0 0) rfl (h4C_one _ _ _ _ _ _ _ _ _ _ _ _ _ _ _ _ _ _) rfl rfl ?_ (szH4 _ _ _ _ _ _ _ _ _ _ _ _ _ _ _ _ _ _) ?_; (· refine Bk.newK _ _ _ ?_ rfl; simp [size_plus]); intro W b5 hgr)
  have zb := be.size
  replace b2 := ((b2.later (below_plus _ bs1 d1)).alloc _).grown hgr (by simp; omega)
  replace be := below_grown (Below.allocS (belowP be bs1 d1) _) hgr (by omega)
  clear hgr zb
  go_wp2_with (refine at_op (.store 140 (.tmp 2) (.tmp 16)) rfl ?_; refine wpList_stA (t := 140) 140 (.tmp 2) (.tmp 16) rfl rfl (h4C 0 0 0 false false 0 0 0 0 false 0 0 false 0 0 none 0 0) (h4C 0 0 0 false false 0 0 0 0 false 0 0 false 0 0 none 0 0) rfl (h4C_one _ _ _ _ _ _ _ _ _ _ _ _ _ _ _ _ _ _) rfl rfl b2 (szH4 _ _ _ _ _ _ _ _ _ _ _ _ _ _ _ _ _ _) ?_; intro W9 h9 g9)
  refine bodyPost_agg3 Try.results72 rfl rfl rfl h9.range u1 u2 (szH4 _ _ _ _ _ _ _ _ _ _ _ _ _ _ _ _ _ _) rfl (RetV.mk ?_)
  exact below_grown be g9 (by omega)
set_option maxHeartbeats 4000000 in
set_option maxRecDepth 100000 in
theorem parse4_ok (A : Option Addr) (n c : Nat) (l : List UInt8) (ts ln id : Nat) (st mo : Bool) (fo tl pr sm sa da sz : Nat) (o : List UInt8) (w : World) (h : Rb w A n c l) (hm : n ≤ 1000000) (h1 : 20 ≤ sz) (h2 : sz ≤ ln) (h3 : ln ≤ n)
    (HH : ∀ w', Below w.heap.size w w' → Calls Try.prog 128 #[.slice A n c] w' (RetHd w' ts ln id st mo fo tl pr sm sa da sz o)) : Calls Try.prog 72 #[.slice A n c] w (RetP4 w ts ln id st mo fo tl pr sm sa da o ((l.drop sz).take (ln - sz))) := by
  obtain ⟨du, u1, u2⟩ := rowH4
  replace HH := Lib.hid HH
  obtain ⟨b, off, rfl, hbl, hcell⟩ := h.2.2.at_ (by rw [bcs_length, h.1]; omega)
  have hc := h.2.1
  have hr0 : Rb w (cutA (some ⟨b, off, none⟩) c sz 1) (ln - sz) (c - sz) ((l.drop sz).take (ln - sz)) := (h.cut (k := sz) (by omega)).take (by omega)
  have j0 : (0 : Int) ≤ (sz : Int) := by omega
  have j1 : (sz : Int) ≤ (ln : Int) := by omega
  have j2 : (ln : Int) ≤ (c : Int) := by omega
  clear hcell
  generalize (l.drop sz).take (ln - sz) = load at *
  have b2 : Bk (w.alloc (.cells #[.int .u8 0, .int .i64 0, .int .u16 0, .bool false, .bool false, .int .i64 0, .int .u8 0, .int .u8 0, .int .u16 0, .bool false, .int .u64 0, .int .u64 0, .bool false, .int .u64 0, .int .u64 0, .slice none 0 0] 140)) w.heap.size 140 (h4C 0 0 0 false false 0 0 0 0 false 0 0 false 0 0 none 0 0) := Bk.new w 140 #[.int .u8 0, .int .i64 0, .int .u16 0, .bool false, .bool false, .int .i64 0, .int .u8 0, .int .u8 0, .int .u16 0, .bool false, .int .u64 0, .int .u64 0, .bool false, .int .u64 0, .int .u64 0, .slice none 0 0]
  have be : Below w.heap.size w (w.alloc (.cells #[.int .u8 0, .int .i64 0, .int .u16 0, .bool false, .bool false, .int .i64 0, .int .u8 0, .int .u8 0, .int .u16 0, .bool false, .int .u64 0, .int .u64 0, .bool false, .int .u64 0, .int .u64 0, .slice none 0 0] 140)) := Below.allocS (Below.refl _ _) _
  go_enter Try.func72, Try.ntmps72
  go_wp2_with fail
  refine (HH.out _ be).mono ?_
  rintro e w1 ⟨Ao, no, ko, bs1, d1, rfl, rfl, hoo⟩
  have zo : ∀ a, Ao = some a → ¬ (fun b => b = w.heap.size) a.block := fun a ha hb => by
    subst ha
    have := (hoo.blk a.block rfl).1
    have hb' : a.block = w.heap.size := hb
    simp at this
    omega
  go_upto_region 2 with (refine at_op (.store 140 (.tmp 5) (.tmp 11)) rfl ?_; refine wpList_stA (t := 140) 140 (.tmp 5) (.tmp 11) rfl rfl (h4C ts (ln : Int) id st mo (fo : Int) tl pr sm false 0 sa false 0 da Ao no ko) (h4C 0 0 0 false false 0 0 0 0 false 0 0 false 0 0 none 0 0) rfl (h4C_one _ _ _ _ _ _ _ _ _ _ _ _ _ _ _ _ _ _) rfl rfl ?_ (szH4 _ _ _ _ _ _ _ _ _ _ _ _ _ _ _ _ _ _) ?_; (· refine Bk.newK _ _ _ ?_ rfl; simp [size_plus]); intro W b5 hgr)
  have zb := be.size
  replace b2 := ((b2.later (below_plus _ bs1 d1)).alloc _).grown hgr (by simp; omega)
  have hro := hoo.rb.later (below_grown (Below.allocS (Below.refl _ _) _) hgr (by simp [size_plus]))
  replace be := below_grown (Below.allocS (belowP be bs1 d1) _) hgr (by omega)
  have hr := hr0.later be
  have hg5 : w.heap.size < w.heap.size + 1 + bs1.length := by omega
  generalize w.heap.size + 1 + bs1.length = g5 at *
  have hDb : ∀ b, (fun b => b = w.heap.size) b → b < W.heap.size := fun b hb => by subst hb; exact b2.lt
  have hrd : ∀ a, cutA (some ⟨b, off, none⟩) c sz 1 = some a → ¬ (fun b => b = w.heap.size) a.block := fun a ha hb => by
    have : a.block = b := by
      unfold cutA at ha
      split at ha
      · injection ha with ha; subst ha; rfl
      · simp [add_plain] at ha; subst ha; rfl
    have hb' : a.block = w.heap.size := hb
    omega
  clear hgr zb h hoo
  go_wp2
  refine wp_su (fun b => b = w.heap.size) 10 25 2 [7] rfl (by kernel_rfl) (by kernel_rfl) (fun i => match i with | 0 => MC.eq (.agg (h4C ts (ln : Int) id st mo (fo : Int) tl pr sm false 0 sa false 0 da Ao no ko).toArray) | 1 => MC.eq (.slice (some ⟨b, off, none⟩) n c) | 2 => MC.eq (.int .i64 (sz : Int)) | 3 => MC.eq (.pointer (some ⟨g5, 1, none⟩)) | 4 => MC.eq (.int .i64 (ln : Int)) | 5 => MC.eq (.slice (cutA (some ⟨b, off, none⟩) c sz 1) (ln - sz) (c - sz)) | 6 => MC.ob W.heap.size hDb load | 7 => MC.any | 8 => MC.ob W.heap.size hDb load | 9 => MC.eq (.int .i64 0) | _ => MC.any) (fun k w' => Bk w' w.heap.size 140 (if k = 0 then h4C 0 0 0 false false 0 0 0 0 false 0 0 false 0 0 none 0 0 else h4C ts (ln : Int) id st mo (fo : Int) tl pr sm false 0 sa false 0 da Ao no ko)) ?_ ?_ ?_ ?_ ?_
  · exact fun k w w' h h' => h.later h'.below
  · exact b2
  · intro i hi o ho hq FA w' hC hO hD K hK
    match i, hi, ho, hq, hO, hD, hK with
    | 0, _, ho, hq, hO, hD, hK => 
      obtain rfl := Option.some.inj ho.symm
      clear ho hq
      have ev5 : FA.eval (.tmp 5) = .pointer (some ⟨g5, 0, none⟩) := hO 5 (by kernel_rfl)
      have e5 : FA.tmps[5]?.getD undef = .pointer (some ⟨g5, 0, none⟩) := by simpa [Act.eval] using ev5
      replace ev5 := Lib.hid ev5
      clear hO hD
      refine wanted_if rfl ?_
      refine wp_load_mid 140 (.tmp 5) rfl g5 0 ev5.out (h4C ts (ln : Int) id st mo (fo : Int) tl pr sm false 0 sa false 0 da Ao no ko) _ (Bk.range (b5.chg hC (by omega))) u1 u2 (szH4 _ _ _ _ _ _ _ _ _ _ _ _ _ _ _ _ _ _) ?_
      exact hK.out _ _ (Ex.refl _) rfl
    | 1, _, ho, hq, hO, hD, hK => 
      obtain rfl := Option.some.inj ho.symm
      clear ho hq
      have ev0 : FA.eval (.tmp 0) = .slice (some ⟨b, off, none⟩) n c := hO 0 (by kernel_rfl)
      have e0 : FA.tmps[0]?.getD undef = .slice (some ⟨b, off, none⟩) n c := by simpa [Act.eval] using ev0
      replace ev0 := Lib.hid ev0
      clear hO hD
      go_simp
      exact hK.out _ _ (Ex.refl _) rfl
    | 2, _, ho, hq, hO, hD, hK => 
      obtain rfl := Option.some.inj ho.symm
      clear ho hq
      have ev6 : FA.eval (.tmp 6) = .int .i64 (sz : Int) := hO 6 (by kernel_rfl)
      have e6 : FA.tmps[6]?.getD undef = .int .i64 (sz : Int) := by simpa [Act.eval] using ev6
      replace ev6 := Lib.hid ev6
      clear hO hD
      go_simp
      exact hK.out _ _ (Ex.refl _) rfl
    | 3, _, ho, hq, hO, hD, hK => 
      obtain rfl := Option.some.inj ho.symm
      clear ho hq
      have ev5 : FA.eval (.tmp 5) = .pointer (some ⟨g5, 0, none⟩) := hO 5 (by kernel_rfl)
      have e5 : FA.tmps[5]?.getD undef = .pointer (some ⟨g5, 0, none⟩) := by simpa [Act.eval] using ev5
      replace ev5 := Lib.hid ev5
      clear hO hD
      go_simp
      exact hK.out _ _ (Ex.refl _) rfl
    | 4, _, ho, hq, hO, hD, hK => 
      obtain rfl := Option.some.inj ho.symm
      clear ho hq
      have ev21 : FA.eval (.tmp 21) = .pointer (some ⟨g5, 1, none⟩) := hD 3 21 (by kernel_rfl)
      have e21 : FA.tmps[21]?.getD undef = .pointer (some ⟨g5, 1, none⟩) := by simpa [Act.eval] using ev21
      replace ev21 := Lib.hid ev21
      clear hO hD
      have cc : w'.cell? ⟨g5, 1, none⟩ = some (.int .i64 (ln : Int)) := (b5.chg hC (by omega)).cell 1
      go_simp
      exact hK.out _ _ (Ex.refl _) rfl
    | 5, _, ho, hq, hO, hD, hK => 
      obtain rfl := Option.some.inj ho.symm
      clear ho hq
      have ev19 : FA.eval (.tmp 19) = .slice (some ⟨b, off, none⟩) n c := hD 1 19 (by kernel_rfl)
      have e19 : FA.tmps[19]?.getD undef = .slice (some ⟨b, off, none⟩) n c := by simpa [Act.eval] using ev19
      replace ev19 := Lib.hid ev19
      have ev20 : FA.eval (.tmp 20) = .int .i64 (sz : Int) := hD 2 20 (by kernel_rfl)
      have e20 : FA.tmps[20]?.getD undef = .int .i64 (sz : Int) := by simpa [Act.eval] using ev20
      replace ev20 := Lib.hid ev20
      have ev22 : FA.eval (.tmp 22) = .int .i64 (ln : Int) := hD 4 22 (by kernel_rfl)
      have e22 : FA.tmps[22]?.getD undef = .int .i64 (ln : Int) := by simpa [Act.eval] using ev22
      replace ev22 := Lib.hid ev22
      clear hO hD
      go_simp
      exact hK.out _ _ (Ex.refl _) rfl
    | 6, _, ho, hq, hO, hD, hK => 
      obtain rfl := Option.some.inj ho.symm
      clear ho hq
      have ev23 : FA.eval (.tmp 23) = .slice (cutA (some ⟨b, off, none⟩) c sz 1) (ln - sz) (c - sz) := hD 5 23 (by kernel_rfl)
      have e23 : FA.tmps[23]?.getD undef = .slice (cutA (some ⟨b, off, none⟩) c sz 1) (ln - sz) (c - sz) := by simpa [Act.eval] using ev23
      replace ev23 := Lib.hid ev23
      clear hO hD
      go_simp
      refine (clone_any _ _ _ load _ (hr.chg hC hrd) (by omega)).mono ?_
      rintro e w1 ⟨A2, n2, c2, bs2, d2, rfl, rfl, ho2⟩
      exact hK.out _ _ (Ex.plus_ _ _ _) ⟨_, _, _, rfl, ho2.mono hC.size⟩
    | 7, _, _, hq, _, _, _ => exact absurd hq (by decide)
    | 8, _, ho, hq, hO, hD, hK => 
      obtain rfl := Option.some.inj ho.symm
      clear ho hq
      have f24 := hD 6 24 (by kernel_rfl)
      generalize eu24 : FA.eval (.tmp 24) = u24 at f24
      have e24 : FA.tmps[24]?.getD undef = u24 := by rw [← eu24]; simp [Act.eval]
      have ev24 := Lib.hid eu24
      clear eu24
      clear hO hD
      go_simp
      exact hK.out _ _ (Ex.refl _) f24
    | 9, _, ho, hq, hO, hD, hK => 
      obtain rfl := Option.some.inj ho.symm
      clear ho hq
      clear hO hD
      go_simp
      exact hK.out _ _ (Ex.refl _) rfl
    | (k + 10), hi, _, _, _, _, _ => exact absurd hi (by omega)
  · intro k i hk o ho FA w' hC hS hO hD K hK
    match k, hk, hS, hK with
    | 0, hk, hS, hK => 
      obtain rfl : 7 = i := Option.some.inj hk
      obtain rfl := Option.some.inj ho.symm
      clear ho hk
      have ev2 : FA.eval (.tmp 2) = .pointer (some ⟨w.heap.size, 0, none⟩) := hO 2 (by kernel_rfl)
      have e2 : FA.tmps[2]?.getD undef = .pointer (some ⟨w.heap.size, 0, none⟩) := by simpa [Act.eval] using ev2
      replace ev2 := Lib.hid ev2
      have ev18 : FA.eval (.tmp 18) = .agg (h4C ts (ln : Int) id st mo (fo : Int) tl pr sm false 0 sa false 0 da Ao no ko).toArray := hD 0 18 (by kernel_rfl)
      have e18 : FA.tmps[18]?.getD undef = .agg (h4C ts (ln : Int) id st mo (fo : Int) tl pr sm false 0 sa false 0 da Ao no ko).toArray := by simpa [Act.eval] using ev18
      replace ev18 := Lib.hid ev18
      clear hO hD
      refine wanted_if rfl ?_
      refine wp_stA 140 (.tmp 2) (.tmp 18) rfl (h4C ts (ln : Int) id st mo (fo : Int) tl pr sm false 0 sa false 0 da Ao no ko) (h4C 0 0 0 false false 0 0 0 0 false 0 0 false 0 0 none 0 0) rfl (h4C_one _ _ _ _ _ _ _ _ _ _ _ _ _ _ _ _ _ _) ev2.out ev18.out hS (szH4 _ _ _ _ _ _ _ _ _ _ _ _ _ _ _ _ _ _) ?_
      intro w'' hn hg
      exact hK.out _ _ (Chg.one hg rfl) hn trivial
    | (k + 1), hk, _, _ => simp at hk
  intro vs w' hC hS hp
  have p0 : vs 0 = .agg (h4C ts (ln : Int) id st mo (fo : Int) tl pr sm false 0 sa false 0 da Ao no ko).toArray := hp 0 (by omega) rfl
  have p1 : vs 1 = .slice (some ⟨b, off, none⟩) n c := hp 1 (by omega) rfl
  have p2 : vs 2 = .int .i64 (sz : Int) := hp 2 (by omega) rfl
  have p3 : vs 3 = .pointer (some ⟨g5, 1, none⟩) := hp 3 (by omega) rfl
  have p4 : vs 4 = .int .i64 (ln : Int) := hp 4 (by omega) rfl
  have p5 : vs 5 = .slice (cutA (some ⟨b, off, none⟩) c sz 1) (ln - sz) (c - sz) := hp 5 (by omega) rfl
  have p6 := hp 6 (by omega) rfl
  have p8 := hp 8 (by omega) rfl
  have p9 : vs 9 = .int .i64 0 := hp 9 (by omega) rfl
  clear hp
  simp only [List.take_succ_cons, List.take_zero, List.drop_succ_cons, List.drop_zero, putAll, Nat.zero_add, Nat.reduceAdd, Act.put, List.setIfInBounds_toArray, List.set_cons_zero, List.set_cons_succ, p0, p1, p2, p3, p4, p5, p9]
  clear p0 p1 p2 p3 p4 p5 p9
  generalize vs 6 = y6 at *
  generalize vs 8 = y8 at *
  clear vs
  obtain ⟨A8, n8, c8, rfl, h8⟩ := p8
  go_wp2
  refine bodyPost_agg3 Try.results72 rfl rfl rfl (Bk.range hS) u1 u2 (szH4 _ _ _ _ _ _ _ _ _ _ _ _ _ _ _ _ _ _) rfl (RetP4.mk (hro.chg hC zo) h8.rb (h8.fresh be.size) ?_)
  exact be.trans (hC.below (B := w.heap.size) (fun b hb => by have : b = w.heap.size := hb; omega) be.size)
end Go.Proofs.Ytfmkndemkpecpaa

/- The reference's Parse of a header of IPv4. -/
namespace Go.Proofs.Ytfmkndemkpecpaa
open Go.RowKit
set_option linter.unusedVariables false
set_option linter.unusedSimpArgs false
attribute [local go_sem ↓] sliced_cut

attribute [local go_sem] cutA_zero

set_option maxHeartbeats 4000000 in
set_option maxRecDepth 100000 in
theorem refP4_short (A : Option Addr) (n c : Nat) (l : List UInt8) (w : World) (h : Rb w A n c l) (hm9 : n ≤ 1000000) (hn : n < 20) : Calls Try.prog 78 #[.slice A n c] w (RetV w (.tuple #[.agg (h4C 0 0 0 false false 0 0 0 0 false 0 0 false 0 0 none 0 0).toArray, .slice none 0 0, .int .i64 20])) := by
  obtain ⟨du, u1, u2⟩ := rowR4
  have d20 : decide ((n : Int) < 20) = true := by simp only [decide_eq_true_eq]; omega
  have hZ : Bk (w.alloc (.cells #[.int .u8 0, .int .i64 0, .int .u16 0, .bool false, .bool false, .int .i64 0, .int .u8 0, .int .u8 0, .int .u16 0, .bool false, .int .u64 0, .int .u64 0, .bool false, .int .u64 0, .int .u64 0, .slice none 0 0] 184)) w.heap.size 184 (h4C 0 0 0 false false 0 0 0 0 false 0 0 false 0 0 none 0 0) := Bk.new w 184 #[.int .u8 0, .int .i64 0, .int .u16 0, .bool false, .bool false, .int .i64 0, .int .u8 0, .int .u8 0, .int .u16 0, .bool false, .int .u64 0, .int .u64 0, .bool false, .int .u64 0, .int .u64 0, .slice none 0 0]
  have be : Below w.heap.size w (w.alloc (.cells #[.int .u8 0, .int .i64 0, .int .u16 0, .bool false, .bool false, .int .i64 0, .int .u8 0, .int .u8 0, .int .u16 0, .bool false, .int .u64 0, .int .u64 0, .bool false, .int .u64 0, .int .u64 0, .slice none 0 0] 184)) := Below.allocS (Below.refl _ _) _
  go_enter Try.func78, Try.ntmps78
  go_wp2_with (refine at_op (.store 184 (.tmp 2) (.tmp 11)) rfl ?_; refine wpList_stA (t := 184) 184 (.tmp 2) (.tmp 11) rfl rfl (h4C 0 0 0 false false 0 0 0 0 false 0 0 false 0 0 none 0 0) (h4C 0 0 0 false false 0 0 0 0 false 0 0 false 0 0 none 0 0) rfl (h4C_one _ _ _ _ _ _ _ _ _ _ _ _ _ _ _ _ _ _) rfl rfl hZ (szR4 _ _ _ _ _ _ _ _ _ _ _ _ _ _ _ _ _ _) ?_; intro W9 h9 g9)
  refine bodyPost_agg3 Try.results78 rfl rfl rfl h9.range u1 u2 (szR4 _ _ _ _ _ _ _ _ _ _ _ _ _ _ _ _ _ _) rfl (RetV.mk ?_)
  exact below_grown be g9 (by omega)
set_option maxHeartbeats 4000000 in
set_option maxRecDepth 100000 in
theorem refP4_f1 (A : Option Addr) (n c : Nat) (l : List UInt8) (w : World) (h : Rb w A n c l) (hm9 : n ≤ 1000000) (f ts ln id pl tl pr sm sa da : Nat) (x0 : num ((l.drop 0).take 1) = f) (x1 : num ((l.drop 1).take 1) = ts) (x2 : num ((l.drop 2).take 2) = ln) (x3 : num ((l.drop 4).take 2) = id) (x4 : num ((l.drop 6).take 2) = pl) (x5 : num ((l.drop 8).take 1) = tl) (x6 : num ((l.drop 9).take 1) = pr) (x7 : num ((l.drop 10).take 2) = sm) (x8 : num ((l.drop 12).take 4) = sa) (x9 : num ((l.drop 16).take 4) = da) (hn : 20 ≤ n) (hb : f / 16 ≠ 4) : Calls Try.prog 78 #[.slice A n c] w (RetV w (.tuple #[.agg (h4C 0 0 0 false false 0 0 0 0 false 0 0 false 0 0 none 0 0).toArray, .slice none 0 0, .int .i64 21])) := by
  obtain ⟨du, u1, u2⟩ := rowR4
  have hc := h.2.1
  have hl := h.1
  have d20 : decide ((n : Int) < 20) = false := by simp only [decide_eq_false_iff_not]; omega
  have hf8 : f < 256 := by rw [← x0]; exact num_lt' l 0 1 256 (by decide)
  have hpl : pl < 65536 := by rw [← x4]; exact num_lt' l 6 2 65536 (by decide)
  have hln : ln < 65536 := by rw [← x2]; exact num_lt' l 2 2 65536 (by decide)
  have hid : id < 65536 := by rw [← x3]; exact num_lt' l 4 2 65536 (by decide)
  have hsm : sm < 65536 := by rw [← x7]; exact num_lt' l 10 2 65536 (by decide)
  obtain ⟨b, off, rfl, hbl, hcell⟩ := h.2.2.at_ (by rw [bcs_length, h.1]; omega)
  have y0 := num_cell hcell 0 (by rw [h.1]; omega)
  have y1 := num_cell hcell 1 (by rw [h.1]; omega)
  have y8 := num_cell hcell 8 (by rw [h.1]; omega)
  have y9 := num_cell hcell 9 (by rw [h.1]; omega)
  rw [x0] at y0
  rw [x1] at y1
  rw [x5] at y8
  rw [x6] at y9
  have i0 : (0 : Int) < (n : Int) := by omega
  have i1 : (1 : Int) < (n : Int) := by omega
  have i8 : (8 : Int) < (n : Int) := by omega
  have i9 : (9 : Int) < (n : Int) := by omega
  rw [Nat.add_zero] at y0
  clear hcell x0 x1 x5 x6
  obtain ⟨m, hm⟩ : ∃ m : Nat, m = f % 16 := ⟨_, rfl⟩
  have e1 : (f : Int) % 16 = (m : Int) := by omega
  obtain ⟨sz, hsz⟩ : ∃ s : Nat, s = 4 * m := ⟨_, rfl⟩
  have e2 : IntKind.i64.wrap ((m : Int) * 4) = (sz : Int) := by rw [IntWalk.i64_in _ (by omega)]; omega
  have e3 : IntKind.i64.wrap (m : Int) = (m : Int) := IntWalk.i64_in _ (by omega)
  replace x2 := Lib.hid x2
  replace x3 := Lib.hid x3
  replace x4 := Lib.hid x4
  replace x7 := Lib.hid x7
  replace x8 := Lib.hid x8
  replace x9 := Lib.hid x9
  have hb1n : ((f : Int) / 16 != 4) = true := by rw [bne_iff_ne]; omega
  clear hm hsz
  have hZ : Bk (w.alloc (.cells #[.int .u8 0, .int .i64 0, .int .u16 0, .bool false, .bool false, .int .i64 0, .int .u8 0, .int .u8 0, .int .u16 0, .bool false, .int .u64 0, .int .u64 0, .bool false, .int .u64 0, .int .u64 0, .slice none 0 0] 184)) w.heap.size 184 (h4C 0 0 0 false false 0 0 0 0 false 0 0 false 0 0 none 0 0) := Bk.new w 184 #[.int .u8 0, .int .i64 0, .int .u16 0, .bool false, .bool false, .int .i64 0, .int .u8 0, .int .u8 0, .int .u16 0, .bool false, .int .u64 0, .int .u64 0, .bool false, .int .u64 0, .int .u64 0, .slice none 0 0]
  have be : Below w.heap.size w (w.alloc (.cells #[.int .u8 0, .int .i64 0, .int .u16 0, .bool false, .bool false, .int .i64 0, .int .u8 0, .int .u8 0, .int .u16 0, .bool false, .int .u64 0, .int .u64 0, .bool false, .int .u64 0, .int .u64 0, .slice none 0 0] 184)) := Below.allocS (Below.refl _ _) _
  go_enter Try.func78, Try.ntmps78
  go_wp2_with (refine at_op (.store 184 (.tmp 2) (.tmp 27)) rfl ?_; refine wpList_stA (t := 184) 184 (.tmp 2) (.tmp 27) rfl rfl (h4C 0 0 0 false false 0 0 0 0 false 0 0 false 0 0 none 0 0) (h4C 0 0 0 false false 0 0 0 0 false 0 0 false 0 0 none 0 0) rfl (h4C_one _ _ _ _ _ _ _ _ _ _ _ _ _ _ _ _ _ _) rfl rfl hZ (szR4 _ _ _ _ _ _ _ _ _ _ _ _ _ _ _ _ _ _) ?_; intro W9 h9 g9)
  refine bodyPost_agg3 Try.results78 rfl rfl rfl h9.range u1 u2 (szR4 _ _ _ _ _ _ _ _ _ _ _ _ _ _ _ _ _ _) rfl (RetV.mk ?_)
  exact below_grown be g9 (by omega)
set_option maxHeartbeats 4000000 in
set_option maxRecDepth 100000 in
theorem refP4_f2 (A : Option Addr) (n c : Nat) (l : List UInt8) (w : World) (h : Rb w A n c l) (hm9 : n ≤ 1000000) (f ts ln id pl tl pr sm sa da : Nat) (x0 : num ((l.drop 0).take 1) = f) (x1 : num ((l.drop 1).take 1) = ts) (x2 : num ((l.drop 2).take 2) = ln) (x3 : num ((l.drop 4).take 2) = id) (x4 : num ((l.drop 6).take 2) = pl) (x5 : num ((l.drop 8).take 1) = tl) (x6 : num ((l.drop 9).take 1) = pr) (x7 : num ((l.drop 10).take 2) = sm) (x8 : num ((l.drop 12).take 4) = sa) (x9 : num ((l.drop 16).take 4) = da) (hn : 20 ≤ n) (hb : f / 16 = 4) (hs : 4 * (f % 16) < 20) : Calls Try.prog 78 #[.slice A n c] w (RetV w (.tuple #[.agg (h4C 0 0 0 false false 0 0 0 0 false 0 0 false 0 0 none 0 0).toArray, .slice none 0 0, .int .i64 21])) := by
  obtain ⟨du, u1, u2⟩ := rowR4
  have hc := h.2.1
  have hl := h.1
  have d20 : decide ((n : Int) < 20) = false := by simp only [decide_eq_false_iff_not]; omega
  have hf8 : f < 256 := by rw [← x0]; exact num_lt' l 0 1 256 (by decide)
  have hpl : pl < 65536 := by rw [← x4]; exact num_lt' l 6 2 65536 (by decide)
  have hln : ln < 65536 := by rw [← x2]; exact num_lt' l 2 2 65536 (by decide)
  have hid : id < 65536 := by rw [← x3]; exact num_lt' l 4 2 65536 (by decide)
  have hsm : sm < 65536 := by rw [← x7]; exact num_lt' l 10 2 65536 (by decide)
  obtain ⟨b, off, rfl, hbl, hcell⟩ := h.2.2.at_ (by rw [bcs_length, h.1]; omega)
  have y0 := num_cell hcell 0 (by rw [h.1]; omega)
  have y1 := num_cell hcell 1 (by rw [h.1]; omega)
  have y8 := num_cell hcell 8 (by rw [h.1]; omega)
  have y9 := num_cell hcell 9 (by rw [h.1]; omega)
  rw [x0] at y0
  rw [x1] at y1
  rw [x5] at y8
  rw [x6] at y9
  have i0 : (0 : Int) < (n : Int) := by omega
  have i1 : (1 : Int) < (n : Int) := by omega
  have i8 : (8 : Int) < (n : Int) := by omega
  have i9 : (9 : Int) < (n : Int) := by omega
  rw [Nat.add_zero] at y0
  clear hcell x0 x1 x5 x6
  obtain ⟨m, hm⟩ : ∃ m : Nat, m = f % 16 := ⟨_, rfl⟩
  have e1 : (f : Int) % 16 = (m : Int) := by omega
  obtain ⟨sz, hsz⟩ : ∃ s : Nat, s = 4 * m := ⟨_, rfl⟩
  have e2 : IntKind.i64.wrap ((m : Int) * 4) = (sz : Int) := by rw [IntWalk.i64_in _ (by omega)]; omega
  have e3 : IntKind.i64.wrap (m : Int) = (m : Int) := IntWalk.i64_in _ (by omega)
  replace x2 := Lib.hid x2
  replace x3 := Lib.hid x3
  replace x4 := Lib.hid x4
  replace x7 := Lib.hid x7
  replace x8 := Lib.hid x8
  replace x9 := Lib.hid x9
  have hb1 : (f : Int) / 16 = 4 := by omega
  have hb1n : ((f : Int) / 16 != 4) = false := by rw [hb1]; rfl
  have qd0 : decide ((sz : Int) < 20) = true := by simp only [decide_eq_true_eq]; omega
  have qd1 : decide (sz < 20) = true := by simp only [decide_eq_true_eq]; omega
  clear hb1
  clear hm hsz
  have hZ : Bk (w.alloc (.cells #[.int .u8 0, .int .i64 0, .int .u16 0, .bool false, .bool false, .int .i64 0, .int .u8 0, .int .u8 0, .int .u16 0, .bool false, .int .u64 0, .int .u64 0, .bool false, .int .u64 0, .int .u64 0, .slice none 0 0] 184)) w.heap.size 184 (h4C 0 0 0 false false 0 0 0 0 false 0 0 false 0 0 none 0 0) := Bk.new w 184 #[.int .u8 0, .int .i64 0, .int .u16 0, .bool false, .bool false, .int .i64 0, .int .u8 0, .int .u8 0, .int .u16 0, .bool false, .int .u64 0, .int .u64 0, .bool false, .int .u64 0, .int .u64 0, .slice none 0 0]
  have be : Below w.heap.size w (w.alloc (.cells #[.int .u8 0, .int .i64 0, .int .u16 0, .bool false, .bool false, .int .i64 0, .int .u8 0, .int .u8 0, .int .u16 0, .bool false, .int .u64 0, .int .u64 0, .bool false, .int .u64 0, .int .u64 0, .slice none 0 0] 184)) := Below.allocS (Below.refl _ _) _
  go_enter Try.func78, Try.ntmps78
  go_wp2_with (refine at_op (.store 184 (.tmp 2) (.tmp 27)) rfl ?_; refine wpList_stA (t := 184) 184 (.tmp 2) (.tmp 27) rfl rfl (h4C 0 0 0 false false 0 0 0 0 false 0 0 false 0 0 none 0 0) (h4C 0 0 0 false false 0 0 0 0 false 0 0 false 0 0 none 0 0) rfl (h4C_one _ _ _ _ _ _ _ _ _ _ _ _ _ _ _ _ _ _) rfl rfl hZ (szR4 _ _ _ _ _ _ _ _ _ _ _ _ _ _ _ _ _ _) ?_; intro W9 h9 g9)
  refine bodyPost_agg3 Try.results78 rfl rfl rfl h9.range u1 u2 (szR4 _ _ _ _ _ _ _ _ _ _ _ _ _ _ _ _ _ _) rfl (RetV.mk ?_)
  exact below_grown be g9 (by omega)
set_option maxHeartbeats 4000000 in
set_option maxRecDepth 100000 in
theorem refP4_e (A : Option Addr) (n c : Nat) (l : List UInt8) (w : World) (h : Rb w A n c l) (hm9 : n ≤ 1000000) (f ts ln id pl tl pr sm sa da : Nat) (st mo : Bool) (x0 : num ((l.drop 0).take 1) = f) (x1 : num ((l.drop 1).take 1) = ts) (x2 : num ((l.drop 2).take 2) = ln) (x3 : num ((l.drop 4).take 2) = id) (x4 : num ((l.drop 6).take 2) = pl) (x5 : num ((l.drop 8).take 1) = tl) (x6 : num ((l.drop 9).take 1) = pr) (x7 : num ((l.drop 10).take 2) = sm) (x8 : num ((l.drop 12).take 4) = sa) (x9 : num ((l.drop 16).take 4) = da) (hst : (pl / 16384 % 2 == 1) = st) (hmo : (pl / 8192 % 2 == 1) = mo) (hn : 20 ≤ n) (hb : f / 16 = 4) (hs : 20 ≤ 4 * (f % 16)) (E : Int) (hE : (32768 ≤ pl ∧ E = 21) ∨ (pl < 32768 ∧ ln < 4 * (f % 16) ∧ E = 21) ∨ (pl < 32768 ∧ 4 * (f % 16) ≤ ln ∧ n < ln ∧ E = 20)) : Calls Try.prog 78 #[.slice A n c] w (RetV w (.tuple #[.agg (h4C 0 0 0 false false 0 0 0 0 false 0 0 false 0 0 none 0 0).toArray, .slice none 0 0, .int .i64 E])) := by
  obtain ⟨du, u1, u2⟩ := rowR4
  have hc := h.2.1
  have hl := h.1
  have d20 : decide ((n : Int) < 20) = false := by simp only [decide_eq_false_iff_not]; omega
  have hf8 : f < 256 := by rw [← x0]; exact num_lt' l 0 1 256 (by decide)
  have hpl : pl < 65536 := by rw [← x4]; exact num_lt' l 6 2 65536 (by decide)
  have hln : ln < 65536 := by rw [← x2]; exact num_lt' l 2 2 65536 (by decide)
  have hid : id < 65536 := by rw [← x3]; exact num_lt' l 4 2 65536 (by decide)
  have hsm : sm < 65536 := by rw [← x7]; exact num_lt' l 10 2 65536 (by decide)
  obtain ⟨b, off, rfl, hbl, hcell⟩ := h.2.2.at_ (by rw [bcs_length, h.1]; omega)
  have y0 := num_cell hcell 0 (by rw [h.1]; omega)
  have y1 := num_cell hcell 1 (by rw [h.1]; omega)
  have y8 := num_cell hcell 8 (by rw [h.1]; omega)
  have y9 := num_cell hcell 9 (by rw [h.1]; omega)
  rw [x0] at y0
  rw [x1] at y1
  rw [x5] at y8
  rw [x6] at y9
  have i0 : (0 : Int) < (n : Int) := by omega
  have i1 : (1 : Int) < (n : Int) := by omega
  have i8 : (8 : Int) < (n : Int) := by omega
  have i9 : (9 : Int) < (n : Int) := by omega
  rw [Nat.add_zero] at y0
  clear hcell x0 x1 x5 x6
  obtain ⟨m, hm⟩ : ∃ m : Nat, m = f % 16 := ⟨_, rfl⟩
  have e1 : (f : Int) % 16 = (m : Int) := by omega
  obtain ⟨sz, hsz⟩ : ∃ s : Nat, s = 4 * m := ⟨_, rfl⟩
  have e2 : IntKind.i64.wrap ((m : Int) * 4) = (sz : Int) := by rw [IntWalk.i64_in _ (by omega)]; omega
  have e3 : IntKind.i64.wrap (m : Int) = (m : Int) := IntWalk.i64_in _ (by omega)
  replace x2 := Lib.hid x2
  replace x3 := Lib.hid x3
  replace x4 := Lib.hid x4
  replace x7 := Lib.hid x7
  replace x8 := Lib.hid x8
  replace x9 := Lib.hid x9
  have hb1 : (f : Int) / 16 = 4 := by omega
  have hb1n : ((f : Int) / 16 != 4) = false := by rw [hb1]; rfl
  have qd2 : decide ((sz : Int) < 20) = false := by simp only [decide_eq_false_iff_not]; omega
  have qd3 : decide (sz < 20) = false := by simp only [decide_eq_false_iff_not]; omega
  replace hE : (32768 ≤ pl ∧ E = 21) ∨ (pl < 32768 ∧ ln < sz ∧ E = 21) ∨ (pl < 32768 ∧ sz ≤ ln ∧ n < ln ∧ E = 20) := by omega
  replace hE := Lib.hid hE
  obtain ⟨za, hza⟩ : ∃ p : Nat, p = pl / 16384 := ⟨_, rfl⟩
  obtain ⟨zb, hzb⟩ : ∃ p : Nat, p = za % 2 := ⟨_, rfl⟩
  obtain ⟨zc, hzc⟩ : ∃ p : Nat, p = pl / 8192 := ⟨_, rfl⟩
  obtain ⟨zd, hzd⟩ : ∃ p : Nat, p = zc % 2 := ⟨_, rfl⟩
  obtain ⟨fo, hfo⟩ : ∃ p : Nat, p = pl % 8192 := ⟨_, rfl⟩
  have v1 : (pl : Int) / 16384 = (za : Int) := by omega
  have v2 : (za : Int) % 2 = (zb : Int) := by omega
  have v3 : ((zb : Int) == 1) = st := by rw [← hst, ← hza, ← hzb, Bool.eq_iff_iff, beq_iff_eq, beq_iff_eq]; omega
  have v4 : (pl : Int) / 8192 = (zc : Int) := by omega
  have v5 : (zc : Int) % 2 = (zd : Int) := by omega
  have v6 : ((zd : Int) == 1) = mo := by rw [← hmo, ← hzc, ← hzd, Bool.eq_iff_iff, beq_iff_eq, beq_iff_eq]; omega
  have v7 : (pl : Int) % 8192 = (fo : Int) := by omega
  have hfo2 : fo < 8192 := by omega
  have m1 : (za : Int).tmod 2 = (zb : Int) := by rw [Int.tmod_eq_emod_of_nonneg (by omega)]; omega
  have m2 : (zc : Int).tmod 2 = (zd : Int) := by rw [Int.tmod_eq_emod_of_nonneg (by omega)]; omega
  have m3 : (pl : Int).tmod 8192 = (fo : Int) := by rw [Int.tmod_eq_emod_of_nonneg (by omega)]; omega
  have wp1 : IntKind.u64.wrap (za : Int) = (za : Int) := IntWalk.u64_in _ (by omega)
  have wp2 : IntKind.u64.wrap (zb : Int) = (zb : Int) := IntWalk.u64_in _ (by omega)
  have wp3 : IntKind.u64.wrap (zc : Int) = (zc : Int) := IntWalk.u64_in _ (by omega)
  have wp4 : IntKind.u64.wrap (zd : Int) = (zd : Int) := IntWalk.u64_in _ (by omega)
  have wfo : IntKind.u64.wrap (fo : Int) = (fo : Int) := IntWalk.u64_in _ (by omega)
  have v8 : IntKind.i64.wrap (fo : Int) = (fo : Int) := IntWalk.i64_in _ (by omega)
  have v9 : IntKind.i64.wrap (ln : Int) = (ln : Int) := IntWalk.i64_in _ (by omega)
  have va : IntKind.u16.wrap (id : Int) = (id : Int) := IntWalk.u16_in _ (by omega)
  have vb : IntKind.u16.wrap (sm : Int) = (sm : Int) := IntWalk.u16_in _ (by omega)
  clear hza hzb hzc hzd hfo hst hmo
  clear hm hsz hb1
  have hZ : Bk (w.alloc (.cells #[.int .u8 0, .int .i64 0, .int .u16 0, .bool false, .bool false, .int .i64 0, .int .u8 0, .int .u8 0, .int .u16 0, .bool false, .int .u64 0, .int .u64 0, .bool false, .int .u64 0, .int .u64 0, .slice none 0 0] 184)) w.heap.size 184 (h4C 0 0 0 false false 0 0 0 0 false 0 0 false 0 0 none 0 0) := Bk.new w 184 #[.int .u8 0, .int .i64 0, .int .u16 0, .bool false, .bool false, .int .i64 0, .int .u8 0, .int .u8 0, .int .u16 0, .bool false, .int .u64 0, .int .u64 0, .bool false, .int .u64 0, .int .u64 0, .slice none 0 0]
  have be : Below w.heap.size w (w.alloc (.cells #[.int .u8 0, .int .i64 0, .int .u16 0, .bool false, .bool false, .int .i64 0, .int .u8 0, .int .u8 0, .int .u16 0, .bool false, .int .u64 0, .int .u64 0, .bool false, .int .u64 0, .int .u64 0, .slice none 0 0] 184)) := Below.allocS (Below.refl _ _) _
  go_enter Try.func78, Try.ntmps78
  go_wp2_with fail
  refine (refGetV _ n c l _ _ 6 2 pl _ (h.alloc _) rfl rfl x4.out (by omega) (by omega) (by omega)).mono ?_
  rintro e w1 ⟨rfl, rfl⟩
  go_upto_region 7 with (fail)
  go_wp2
  refine wp_relE 31 103 [0, 3, 5, 6, 8, 9, 10, 11, 12, 13, 14, 15, 16, 17, 18, 19, 20, 23, 26, 28] rfl (by kernel_rfl) (by kernel_rfl) (fun i => match i with | 0 => MP.eq (.slice (some ⟨b, off, none⟩) n c) | 1 => MP.eq (.pointer (some ⟨b, off + 1, none⟩)) | 2 => MP.eq (.int .u8 (ts : Int)) | 3 => MP.eq (.slice (some ⟨b, off, none⟩) n c) | 4 => MP.eq (.int .u64 (ln : Int)) | 5 => MP.eq (.int .i64 (ln : Int)) | 6 => MP.eq (.slice (some ⟨b, off, none⟩) n c) | 7 => MP.eq (.int .u64 (id : Int)) | 8 => MP.eq (.int .u16 (id : Int)) | 9 => MP.eq (.int .u64 (pl : Int)) | 10 => MP.eq (.int .u64 (za : Int)) | 11 => MP.eq (.int .u64 (zb : Int)) | 12 => MP.eq (.bool st) | 13 => MP.eq (.int .u64 (pl : Int)) | 14 => MP.eq (.int .u64 (zc : Int)) | 15 => MP.eq (.int .u64 (zd : Int)) | 16 => MP.eq (.bool mo) | 17 => MP.eq (.int .u64 (pl : Int)) | 18 => MP.eq (.int .u64 (fo : Int)) | 19 => MP.eq (.int .i64 (fo : Int)) | 20 => MP.eq (.slice (some ⟨b, off, none⟩) n c) | 21 => MP.eq (.pointer (some ⟨b, off + 8, none⟩)) | 22 => MP.eq (.int .u8 (tl : Int)) | 23 => MP.eq (.slice (some ⟨b, off, none⟩) n c) | 24 => MP.eq (.pointer (some ⟨b, off + 9, none⟩)) | 25 => MP.eq (.int .u8 (pr : Int)) | 26 => MP.eq (.slice (some ⟨b, off, none⟩) n c) | 27 => MP.eq (.int .u64 (sm : Int)) | 28 => MP.eq (.int .u16 (sm : Int)) | 29 => MP.eq (.agg #[.int .u8 (ts : Int), .int .i64 (ln : Int), .int .u16 (id : Int), .bool st, .bool mo, .int .i64 (fo : Int), .int .u8 (tl : Int), .int .u8 (pr : Int), .int .u16 (sm : Int), .bool false, .int .u64 0, .int .u64 0, .bool false, .int .u64 0, .int .u64 0, .slice none 0 0]) | 30 => MP.blk (w.heap.size + 1) 184 (h4C 0 0 0 false false 0 0 0 0 false 0 0 false 0 0 none 0 0) | _ => MP.any) ?_ ?_
  · intro i hi o ho FA x hO hD
    match i, hi, ho, hO, hD with
    | 0, _, ho, hO, hD => 
      obtain rfl := Option.some.inj ho.symm
      clear ho
      have ev0 : FA.eval (.tmp 0) = .slice (some ⟨b, off, none⟩) n c := hO 0 (by kernel_rfl)
      have e0 : FA.tmps[0]?.getD undef = .slice (some ⟨b, off, none⟩) n c := by simpa [Act.eval] using ev0
      replace ev0 := Lib.hid ev0
      clear hO hD
      rw [if_pos (by decide)]
      refine ⟨.slice (some ⟨b, off, none⟩) n c, .inl ⟨by simp [Region.wanted], fun w => ?_⟩, rfl⟩
      go_simp
    | 1, _, ho, hO, hD => 
      obtain rfl := Option.some.inj ho.symm
      clear ho
      have ev30 : FA.eval (.tmp 30) = .slice (some ⟨b, off, none⟩) n c := hD 0 30 (by kernel_rfl)
      have e30 : FA.tmps[30]?.getD undef = .slice (some ⟨b, off, none⟩) n c := by simpa [Act.eval] using ev30
      replace ev30 := Lib.hid ev30
      clear hO hD
      rw [if_neg (by decide)]
      intro K hK
      go_simp
      exact hK.out _ _ (Ex.refl _) rfl
    | 2, _, ho, hO, hD => 
      obtain rfl := Option.some.inj ho.symm
      clear ho
      have ev31 : FA.eval (.tmp 31) = .pointer (some ⟨b, off + 1, none⟩) := hD 1 31 (by kernel_rfl)
      have e31 : FA.tmps[31]?.getD undef = .pointer (some ⟨b, off + 1, none⟩) := by simpa [Act.eval] using ev31
      replace ev31 := Lib.hid ev31
      clear hO hD
      rw [if_neg (by decide)]
      intro K hK
      go_simp
      exact hK.out _ _ (Ex.refl _) rfl
    | 3, _, ho, hO, hD => 
      obtain rfl := Option.some.inj ho.symm
      clear ho
      have ev0 : FA.eval (.tmp 0) = .slice (some ⟨b, off, none⟩) n c := hO 0 (by kernel_rfl)
      have e0 : FA.tmps[0]?.getD undef = .slice (some ⟨b, off, none⟩) n c := by simpa [Act.eval] using ev0
      replace ev0 := Lib.hid ev0
      clear hO hD
      rw [if_pos (by decide)]
      refine ⟨.slice (some ⟨b, off, none⟩) n c, .inl ⟨by simp [Region.wanted], fun w => ?_⟩, rfl⟩
      go_simp
    | 4, _, ho, hO, hD => 
      obtain rfl := Option.some.inj ho.symm
      clear ho
      have ev33 : FA.eval (.tmp 33) = .slice (some ⟨b, off, none⟩) n c := hD 3 33 (by kernel_rfl)
      have e33 : FA.tmps[33]?.getD undef = .slice (some ⟨b, off, none⟩) n c := by simpa [Act.eval] using ev33
      replace ev33 := Lib.hid ev33
      clear hO hD
      rw [if_neg (by decide)]
      intro K hK
      go_simp
      refine (refGetV _ n c l _ _ 2 2 ln _ ((h.alloc _).plus_ _ _) rfl rfl x2.out (by omega) (by omega) (by omega)).mono ?_
      rintro e w1 ⟨rfl, rfl⟩
      exact hK.out _ _ (Ex.refl _) rfl
    | 5, _, ho, hO, hD => 
      obtain rfl := Option.some.inj ho.symm
      clear ho
      have ev34 : FA.eval (.tmp 34) = .int .u64 (ln : Int) := hD 4 34 (by kernel_rfl)
      have e34 : FA.tmps[34]?.getD undef = .int .u64 (ln : Int) := by simpa [Act.eval] using ev34
      replace ev34 := Lib.hid ev34
      clear hO hD
      rw [if_pos (by decide)]
      refine ⟨.int .i64 (ln : Int), .inl ⟨by simp [Region.wanted], fun w => ?_⟩, rfl⟩
      go_simp
    | 6, _, ho, hO, hD => 
      obtain rfl := Option.some.inj ho.symm
      clear ho
      have ev0 : FA.eval (.tmp 0) = .slice (some ⟨b, off, none⟩) n c := hO 0 (by kernel_rfl)
      have e0 : FA.tmps[0]?.getD undef = .slice (some ⟨b, off, none⟩) n c := by simpa [Act.eval] using ev0
      replace ev0 := Lib.hid ev0
      clear hO hD
      rw [if_pos (by decide)]
      refine ⟨.slice (some ⟨b, off, none⟩) n c, .inl ⟨by simp [Region.wanted], fun w => ?_⟩, rfl⟩
      go_simp
    | 7, _, ho, hO, hD => 
      obtain rfl := Option.some.inj ho.symm
      clear ho
      have ev36 : FA.eval (.tmp 36) = .slice (some ⟨b, off, none⟩) n c := hD 6 36 (by kernel_rfl)
      have e36 : FA.tmps[36]?.getD undef = .slice (some ⟨b, off, none⟩) n c := by simpa [Act.eval] using ev36
      replace ev36 := Lib.hid ev36
      clear hO hD
      rw [if_neg (by decide)]
      intro K hK
      go_simp
      refine (refGetV _ n c l _ _ 4 2 id _ ((h.alloc _).plus_ _ _) rfl rfl x3.out (by omega) (by omega) (by omega)).mono ?_
      rintro e w1 ⟨rfl, rfl⟩
      exact hK.out _ _ (Ex.refl _) rfl
    | 8, _, ho, hO, hD => 
      obtain rfl := Option.some.inj ho.symm
      clear ho
      have ev37 : FA.eval (.tmp 37) = .int .u64 (id : Int) := hD 7 37 (by kernel_rfl)
      have e37 : FA.tmps[37]?.getD undef = .int .u64 (id : Int) := by simpa [Act.eval] using ev37
      replace ev37 := Lib.hid ev37
      clear hO hD
      rw [if_pos (by decide)]
      refine ⟨.int .u16 (id : Int), .inl ⟨by simp [Region.wanted], fun w => ?_⟩, rfl⟩
      go_simp
    | 9, _, ho, hO, hD => 
      obtain rfl := Option.some.inj ho.symm
      clear ho
      have ev6 : FA.eval (.tmp 6) = .int .u64 (pl : Int) := hO 6 (by kernel_rfl)
      have e6 : FA.tmps[6]?.getD undef = .int .u64 (pl : Int) := by simpa [Act.eval] using ev6
      replace ev6 := Lib.hid ev6
      clear hO hD
      rw [if_pos (by decide)]
      refine ⟨.int .u64 (pl : Int), .inl ⟨by simp [Region.wanted], fun w => ?_⟩, rfl⟩
      go_simp
    | 10, _, ho, hO, hD => 
      obtain rfl := Option.some.inj ho.symm
      clear ho
      have ev39 : FA.eval (.tmp 39) = .int .u64 (pl : Int) := hD 9 39 (by kernel_rfl)
      have e39 : FA.tmps[39]?.getD undef = .int .u64 (pl : Int) := by simpa [Act.eval] using ev39
      replace ev39 := Lib.hid ev39
      clear hO hD
      rw [if_pos (by decide)]
      refine ⟨.int .u64 (za : Int), .inl ⟨by simp [Region.wanted], fun w => ?_⟩, rfl⟩
      go_simp
    | 11, _, ho, hO, hD => 
      obtain rfl := Option.some.inj ho.symm
      clear ho
      have ev40 : FA.eval (.tmp 40) = .int .u64 (za : Int) := hD 10 40 (by kernel_rfl)
      have e40 : FA.tmps[40]?.getD undef = .int .u64 (za : Int) := by simpa [Act.eval] using ev40
      replace ev40 := Lib.hid ev40
      clear hO hD
      rw [if_pos (by decide)]
      refine ⟨.int .u64 (zb : Int), .inl ⟨by simp [Region.wanted], fun w => ?_⟩, rfl⟩
      go_simp
    | 12, _, ho, hO, hD => 
      obtain rfl := Option.some.inj ho.symm
      clear ho
      have ev41 : FA.eval (.tmp 41) = .int .u64 (zb : Int) := hD 11 41 (by kernel_rfl)
      have e41 : FA.tmps[41]?.getD undef = .int .u64 (zb : Int) := by simpa [Act.eval] using ev41
      replace ev41 := Lib.hid ev41
      clear hO hD
      rw [if_pos (by decide)]
      refine ⟨.bool st, .inl ⟨by simp [Region.wanted], fun w => ?_⟩, rfl⟩
      go_simp
    | 13, _, ho, hO, hD => 
      obtain rfl := Option.some.inj ho.symm
      clear ho
      have ev6 : FA.eval (.tmp 6) = .int .u64 (pl : Int) := hO 6 (by kernel_rfl)
      have e6 : FA.tmps[6]?.getD undef = .int .u64 (pl : Int) := by simpa [Act.eval] using ev6
      replace ev6 := Lib.hid ev6
      clear hO hD
      rw [if_pos (by decide)]
      refine ⟨.int .u64 (pl : Int), .inl ⟨by simp [Region.wanted], fun w => ?_⟩, rfl⟩
      go_simp
    | 14, _, ho, hO, hD => 
      obtain rfl := Option.some.inj ho.symm
      clear ho
      have ev43 : FA.eval (.tmp 43) = .int .u64 (pl : Int) := hD 13 43 (by kernel_rfl)
      have e43 : FA.tmps[43]?.getD undef = .int .u64 (pl : Int) := by simpa [Act.eval] using ev43
      replace ev43 := Lib.hid ev43
      clear hO hD
      rw [if_pos (by decide)]
      refine ⟨.int .u64 (zc : Int), .inl ⟨by simp [Region.wanted], fun w => ?_⟩, rfl⟩
      go_simp
    | 15, _, ho, hO, hD => 
      obtain rfl := Option.some.inj ho.symm
      clear ho
      have ev44 : FA.eval (.tmp 44) = .int .u64 (zc : Int) := hD 14 44 (by kernel_rfl)
      have e44 : FA.tmps[44]?.getD undef = .int .u64 (zc : Int) := by simpa [Act.eval] using ev44
      replace ev44 := Lib.hid ev44
      clear hO hD
      rw [if_pos (by decide)]
      refine ⟨.int .u64 (zd : Int), .inl ⟨by simp [Region.wanted], fun w => ?_⟩, rfl⟩
      go_simp
    | 16, _, ho, hO, hD => 
      obtain rfl := Option.some.inj ho.symm
      clear ho
      have ev45 : FA.eval (.tmp 45) = .int .u64 (zd : Int) := hD 15 45 (by kernel_rfl)
      have e45 : FA.tmps[45]?.getD undef = .int .u64 (zd : Int) := by simpa [Act.eval] using ev45
      replace ev45 := Lib.hid ev45
      clear hO hD
      rw [if_pos (by decide)]
      refine ⟨.bool mo, .inl ⟨by simp [Region.wanted], fun w => ?_⟩, rfl⟩
      go_simp
    | 17, _, ho, hO, hD => 
      obtain rfl := Option.some.inj ho.symm
      clear ho
      have ev6 : FA.eval (.tmp 6) = .int .u64 (pl : Int) := hO 6 (by kernel_rfl)
      have e6 : FA.tmps[6]?.getD undef = .int .u64 (pl : Int) := by simpa [Act.eval] using ev6
      replace ev6 := Lib.hid ev6
      clear hO hD
      rw [if_pos (by decide)]
      refine ⟨.int .u64 (pl : Int), .inl ⟨by simp [Region.wanted], fun w => ?_⟩, rfl⟩
      go_simp
    | 18, _, ho, hO, hD => 
      obtain rfl := Option.some.inj ho.symm
      clear ho
      have ev47 : FA.eval (.tmp 47) = .int .u64 (pl : Int) := hD 17 47 (by kernel_rfl)
      have e47 : FA.tmps[47]?.getD undef = .int .u64 (pl : Int) := by simpa [Act.eval] using ev47
      replace ev47 := Lib.hid ev47
      clear hO hD
      rw [if_pos (by decide)]
      refine ⟨.int .u64 (fo : Int), .inl ⟨by simp [Region.wanted], fun w => ?_⟩, rfl⟩
      go_simp
    | 19, _, ho, hO, hD => 
      obtain rfl := Option.some.inj ho.symm
      clear ho
      have ev48 : FA.eval (.tmp 48) = .int .u64 (fo : Int) := hD 18 48 (by kernel_rfl)
      have e48 : FA.tmps[48]?.getD undef = .int .u64 (fo : Int) := by simpa [Act.eval] using ev48
      replace ev48 := Lib.hid ev48
      clear hO hD
      rw [if_pos (by decide)]
      refine ⟨.int .i64 (fo : Int), .inl ⟨by simp [Region.wanted], fun w => ?_⟩, rfl⟩
      go_simp
    | 20, _, ho, hO, hD => 
      obtain rfl := Option.some.inj ho.symm
      clear ho
      have ev0 : FA.eval (.tmp 0) = .slice (some ⟨b, off, none⟩) n c := hO 0 (by kernel_rfl)
      have e0 : FA.tmps[0]?.getD undef = .slice (some ⟨b, off, none⟩) n c := by simpa [Act.eval] using ev0
      replace ev0 := Lib.hid ev0
      clear hO hD
      rw [if_pos (by decide)]
      refine ⟨.slice (some ⟨b, off, none⟩) n c, .inl ⟨by simp [Region.wanted], fun w => ?_⟩, rfl⟩
      go_simp
    | 21, _, ho, hO, hD => 
      obtain rfl := Option.some.inj ho.symm
      clear ho
      have ev50 : FA.eval (.tmp 50) = .slice (some ⟨b, off, none⟩) n c := hD 20 50 (by kernel_rfl)
      have e50 : FA.tmps[50]?.getD undef = .slice (some ⟨b, off, none⟩) n c := by simpa [Act.eval] using ev50
      replace ev50 := Lib.hid ev50
      clear hO hD
      rw [if_neg (by decide)]
      intro K hK
      go_simp
      exact hK.out _ _ (Ex.refl _) rfl
    | 22, _, ho, hO, hD => 
      obtain rfl := Option.some.inj ho.symm
      clear ho
      have ev51 : FA.eval (.tmp 51) = .pointer (some ⟨b, off + 8, none⟩) := hD 21 51 (by kernel_rfl)
      have e51 : FA.tmps[51]?.getD undef = .pointer (some ⟨b, off + 8, none⟩) := by simpa [Act.eval] using ev51
      replace ev51 := Lib.hid ev51
      clear hO hD
      rw [if_neg (by decide)]
      intro K hK
      go_simp
      exact hK.out _ _ (Ex.refl _) rfl
    | 23, _, ho, hO, hD => 
      obtain rfl := Option.some.inj ho.symm
      clear ho
      have ev0 : FA.eval (.tmp 0) = .slice (some ⟨b, off, none⟩) n c := hO 0 (by kernel_rfl)
      have e0 : FA.tmps[0]?.getD undef = .slice (some ⟨b, off, none⟩) n c := by simpa [Act.eval] using ev0
      replace ev0 := Lib.hid ev0
      clear hO hD
      rw [if_pos (by decide)]
      refine ⟨.slice (some ⟨b, off, none⟩) n c, .inl ⟨by simp [Region.wanted], fun w => ?_⟩, rfl⟩
      go_simp
    | 24, _, ho, hO, hD => 
      obtain rfl := Option.some.inj ho.symm
      clear ho
      have ev53 : FA.eval (.tmp 53) = .slice (some ⟨b, off, none⟩) n c := hD 23 53 (by kernel_rfl)
      have e53 : FA.tmps[53]?.getD undef = .slice (some ⟨b, off, none⟩) n c := by simpa [Act.eval] using ev53
      replace ev53 := Lib.hid ev53
      clear hO hD
      rw [if_neg (by decide)]
      intro K hK
      go_simp
      exact hK.out _ _ (Ex.refl _) rfl
    | 25, _, ho, hO, hD => 
      obtain rfl := Option.some.inj ho.symm
      clear ho
      have ev54 : FA.eval (.tmp 54) = .pointer (some ⟨b, off + 9, none⟩) := hD 24 54 (by kernel_rfl)
      have e54 : FA.tmps[54]?.getD undef = .pointer (some ⟨b, off + 9, none⟩) := by simpa [Act.eval] using ev54
      replace ev54 := Lib.hid ev54
      clear hO hD
      rw [if_neg (by decide)]
      intro K hK
      go_simp
      exact hK.out _ _ (Ex.refl _) rfl
    | 26, _, ho, hO, hD => 
      obtain rfl := Option.some.inj ho.symm
      clear ho
      have ev0 : FA.eval (.tmp 0) = .slice (some ⟨b, off, none⟩) n c := hO 0 (by kernel_rfl)
      have e0 : FA.tmps[0]?.getD undef = .slice (some ⟨b, off, none⟩) n c := by simpa [Act.eval] using ev0
      replace ev0 := Lib.hid ev0
      clear hO hD
      rw [if_pos (by decide)]
      refine ⟨.slice (some ⟨b, off, none⟩) n c, .inl ⟨by simp [Region.wanted], fun w => ?_⟩, rfl⟩
      go_simp
    | 27, _, ho, hO, hD => 
      obtain rfl := Option.some.inj ho.symm
      clear ho
      have ev56 : FA.eval (.tmp 56) = .slice (some ⟨b, off, none⟩) n c := hD 26 56 (by kernel_rfl)
      have e56 : FA.tmps[56]?.getD undef = .slice (some ⟨b, off, none⟩) n c := by simpa [Act.eval] using ev56
      replace ev56 := Lib.hid ev56
      clear hO hD
      rw [if_neg (by decide)]
      intro K hK
      go_simp
      refine (refGetV _ n c l _ _ 10 2 sm _ ((h.alloc _).plus_ _ _) rfl rfl x7.out (by omega) (by omega) (by omega)).mono ?_
      rintro e w1 ⟨rfl, rfl⟩
      exact hK.out _ _ (Ex.refl _) rfl
    | 28, _, ho, hO, hD => 
      obtain rfl := Option.some.inj ho.symm
      clear ho
      have ev57 : FA.eval (.tmp 57) = .int .u64 (sm : Int) := hD 27 57 (by kernel_rfl)
      have e57 : FA.tmps[57]?.getD undef = .int .u64 (sm : Int) := by simpa [Act.eval] using ev57
      replace ev57 := Lib.hid ev57
      clear hO hD
      rw [if_pos (by decide)]
      refine ⟨.int .u16 (sm : Int), .inl ⟨by simp [Region.wanted], fun w => ?_⟩, rfl⟩
      go_simp
    | 29, _, ho, hO, hD => 
      obtain rfl := Option.some.inj ho.symm
      clear ho
      have ev32 : FA.eval (.tmp 32) = .int .u8 (ts : Int) := hD 2 32 (by kernel_rfl)
      have e32 : FA.tmps[32]?.getD undef = .int .u8 (ts : Int) := by simpa [Act.eval] using ev32
      replace ev32 := Lib.hid ev32
      have ev35 : FA.eval (.tmp 35) = .int .i64 (ln : Int) := hD 5 35 (by kernel_rfl)
      have e35 : FA.tmps[35]?.getD undef = .int .i64 (ln : Int) := by simpa [Act.eval] using ev35
      replace ev35 := Lib.hid ev35
      have ev38 : FA.eval (.tmp 38) = .int .u16 (id : Int) := hD 8 38 (by kernel_rfl)
      have e38 : FA.tmps[38]?.getD undef = .int .u16 (id : Int) := by simpa [Act.eval] using ev38
      replace ev38 := Lib.hid ev38
      have ev42 : FA.eval (.tmp 42) = .bool st := hD 12 42 (by kernel_rfl)
      have e42 : FA.tmps[42]?.getD undef = .bool st := by simpa [Act.eval] using ev42
      replace ev42 := Lib.hid ev42
      have ev46 : FA.eval (.tmp 46) = .bool mo := hD 16 46 (by kernel_rfl)
      have e46 : FA.tmps[46]?.getD undef = .bool mo := by simpa [Act.eval] using ev46
      replace ev46 := Lib.hid ev46
      have ev49 : FA.eval (.tmp 49) = .int .i64 (fo : Int) := hD 19 49 (by kernel_rfl)
      have e49 : FA.tmps[49]?.getD undef = .int .i64 (fo : Int) := by simpa [Act.eval] using ev49
      replace ev49 := Lib.hid ev49
      have ev52 : FA.eval (.tmp 52) = .int .u8 (tl : Int) := hD 22 52 (by kernel_rfl)
      have e52 : FA.tmps[52]?.getD undef = .int .u8 (tl : Int) := by simpa [Act.eval] using ev52
      replace ev52 := Lib.hid ev52
      have ev55 : FA.eval (.tmp 55) = .int .u8 (pr : Int) := hD 25 55 (by kernel_rfl)
      have e55 : FA.tmps[55]?.getD undef = .int .u8 (pr : Int) := by simpa [Act.eval] using ev55
      replace ev55 := Lib.hid ev55
      have ev58 : FA.eval (.tmp 58) = .int .u16 (sm : Int) := hD 28 58 (by kernel_rfl)
      have e58 : FA.tmps[58]?.getD undef = .int .u16 (sm : Int) := by simpa [Act.eval] using ev58
      replace ev58 := Lib.hid ev58
      clear hO hD
      rw [if_neg (by decide)]
      intro K hK
      go_simp
      exact hK.out _ _ (Ex.refl _) rfl
    | 30, _, ho, hO, hD => 
      obtain rfl := Option.some.inj ho.symm
      clear ho
      clear hO hD
      rw [if_neg (by decide)]
      intro K hK
      go_simp
      refine hK.out _ _ (Ex.alloc _ _) ⟨_, rfl, ?_, ?_⟩
      · simp [size_plus]
      · refine Bk.newK _ _ _ ?_ rfl
        simp [size_plus]
    | (k + 31), hi, _, _, _ => exact absurd hi (by omega)
  intro vs x hp
  have p0 : vs 0 = .slice (some ⟨b, off, none⟩) n c := hp 0 (by omega)
  have p1 : vs 1 = .pointer (some ⟨b, off + 1, none⟩) := hp 1 (by omega)
  have p2 : vs 2 = .int .u8 (ts : Int) := hp 2 (by omega)
  have p3 : vs 3 = .slice (some ⟨b, off, none⟩) n c := hp 3 (by omega)
  have p4 : vs 4 = .int .u64 (ln : Int) := hp 4 (by omega)
  have p5 : vs 5 = .int .i64 (ln : Int) := hp 5 (by omega)
  have p6 : vs 6 = .slice (some ⟨b, off, none⟩) n c := hp 6 (by omega)
  have p7 : vs 7 = .int .u64 (id : Int) := hp 7 (by omega)
  have p8 : vs 8 = .int .u16 (id : Int) := hp 8 (by omega)
  have p9 : vs 9 = .int .u64 (pl : Int) := hp 9 (by omega)
  have p10 : vs 10 = .int .u64 (za : Int) := hp 10 (by omega)
  have p11 : vs 11 = .int .u64 (zb : Int) := hp 11 (by omega)
  have p12 : vs 12 = .bool st := hp 12 (by omega)
  have p13 : vs 13 = .int .u64 (pl : Int) := hp 13 (by omega)
  have p14 : vs 14 = .int .u64 (zc : Int) := hp 14 (by omega)
  have p15 : vs 15 = .int .u64 (zd : Int) := hp 15 (by omega)
  have p16 : vs 16 = .bool mo := hp 16 (by omega)
  have p17 : vs 17 = .int .u64 (pl : Int) := hp 17 (by omega)
  have p18 : vs 18 = .int .u64 (fo : Int) := hp 18 (by omega)
  have p19 : vs 19 = .int .i64 (fo : Int) := hp 19 (by omega)
  have p20 : vs 20 = .slice (some ⟨b, off, none⟩) n c := hp 20 (by omega)
  have p21 : vs 21 = .pointer (some ⟨b, off + 8, none⟩) := hp 21 (by omega)
  have p22 : vs 22 = .int .u8 (tl : Int) := hp 22 (by omega)
  have p23 : vs 23 = .slice (some ⟨b, off, none⟩) n c := hp 23 (by omega)
  have p24 : vs 24 = .pointer (some ⟨b, off + 9, none⟩) := hp 24 (by omega)
  have p25 : vs 25 = .int .u8 (pr : Int) := hp 25 (by omega)
  have p26 : vs 26 = .slice (some ⟨b, off, none⟩) n c := hp 26 (by omega)
  have p27 : vs 27 = .int .u64 (sm : Int) := hp 27 (by omega)
  have p28 : vs 28 = .int .u16 (sm : Int) := hp 28 (by omega)
  have p29 : vs 29 = .agg #[.int .u8 (ts : Int), .int .i64 (ln : Int), .int .u16 (id : Int), .bool st, .bool mo, .int .i64 (fo : Int), .int .u8 (tl : Int), .int .u8 (pr : Int), .int .u16 (sm : Int), .bool false, .int .u64 0, .int .u64 0, .bool false, .int .u64 0, .int .u64 0, .slice none 0 0] := hp 29 (by omega)
  have p30 := hp 30 (by omega)
  clear hp
  simp only [List.take_succ_cons, List.take_zero, List.drop_succ_cons, List.drop_zero, putAll, Nat.zero_add, Nat.reduceAdd, Act.put, List.setIfInBounds_toArray, List.set_cons_zero, List.set_cons_succ, p0, p1, p2, p3, p4, p5, p6, p7, p8, p9, p10, p11, p12, p13, p14, p15, p16, p17, p18, p19, p20, p21, p22, p23, p24, p25, p26, p27, p28, p29]
  clear p0 p1 p2 p3 p4 p5 p6 p7 p8 p9 p10 p11 p12 p13 p14 p15 p16 p17 p18 p19 p20 p21 p22 p23 p24 p25 p26 p27 p28 p29
  generalize vs 30 = y30 at *
  clear vs
  obtain ⟨g, rfl, hgw, hb⟩ := p30
  go_upto_region 8 with (refine at_op (.store 184 (.tmp 7) (.tmp 59)) rfl ?_; refine wpList_stA (t := 184) 184 (.tmp 7) (.tmp 59) rfl rfl ([.int .u8 (ts : Int), .int .i64 (ln : Int), .int .u16 (id : Int), .bool st, .bool mo, .int .i64 (fo : Int), .int .u8 (tl : Int), .int .u8 (pr : Int), .int .u16 (sm : Int), .bool false, .int .u64 0, .int .u64 0, .bool false, .int .u64 0, .int .u64 0, .slice none 0 0]) (h4C 0 0 0 false false 0 0 0 0 false 0 0 false 0 0 none 0 0) rfl (by simp [Value.oneCell']) rfl rfl hb (by kernel_rfl) ?_; intro w3 hX hg3)
  replace hZ := (hZ.later (below_plus _ x.bs x.d)).grown hg3 (by simp; omega)
  replace be := below_grown (belowP be x.bs x.d) hg3 (by omega)
  clear hg3 hb
  refine NoPanic.normal ?_
  go_wp2_with fail
  refine (refGetV _ n c l _ _ 12 4 sa _ (h.later be) rfl rfl x8.out (by omega) (by omega) (by omega)).mono ?_
  rintro e w1 ⟨rfl, rfl⟩
  have zx := hX.lt
  go_upto_region 9 with (refine at_op (.store 26 (.tmp 63) (.tmp 62)) rfl ?_; refine wpList_stM (t := 184) 26 (.tmp 63) (.tmp 62) rfl rfl (adC false 0 sa) _ (by simp [adC]) (adC_one _ _ _) rfl rfl hX (szAd _ _ _) ?_; intro w4 hX2 hg)
  simp only [splice, adC, List.take_succ_cons, List.take_zero, List.drop_succ_cons, List.drop_zero, List.length_cons, List.length_nil, Nat.zero_add, Nat.reduceAdd, List.cons_append, List.nil_append] at hX2
  replace hZ := hZ.grown hg (by simp; omega)
  replace be := below_grown be hg (by omega)
  clear hX hg zx
  have hX := hX2
  clear hX2
  go_wp2_with fail
  refine (refGetV _ n c l _ _ 16 4 da _ (h.later be) rfl rfl x9.out (by omega) (by omega) (by omega)).mono ?_
  rintro e w1 ⟨rfl, rfl⟩
  have zx := hX.lt
  go_upto_region 10 with (refine at_op (.store 26 (.tmp 67) (.tmp 66)) rfl ?_; refine wpList_stM (t := 184) 26 (.tmp 67) (.tmp 66) rfl rfl (adC false 0 da) _ (by simp [adC]) (adC_one _ _ _) rfl rfl hX (szAd _ _ _) ?_; intro w5 hX2 hg)
  simp only [splice, adC, List.take_succ_cons, List.take_zero, List.drop_succ_cons, List.drop_zero, List.length_cons, List.length_nil, Nat.zero_add, Nat.reduceAdd, List.cons_append, List.nil_append] at hX2
  replace hZ := hZ.grown hg (by simp; omega)
  replace be := below_grown be hg (by omega)
  clear hX hg zx
  have hX := hX2
  clear hX2
  have yl : w5.cell? ⟨g, 1, none⟩ = some (.int .i64 (ln : Int)) := hX.cell 1
  have zx := hX.lt
  rcases hE.out with ⟨hp9, rfl⟩ | ⟨hp9, hl9, rfl⟩ | ⟨hp9, hl9, hq, rfl⟩
  · have qd4 : decide (32767 < (pl : Int)) = true := by simp only [decide_eq_true_eq]; omega
    have qd5 : decide (32767 < pl) = true := by simp only [decide_eq_true_eq]; omega
    go_wp2_with (refine at_op (.store 184 (.tmp 2) (.tmp 76)) rfl ?_; refine wpList_stA (t := 184) 184 (.tmp 2) (.tmp 76) rfl rfl (h4C 0 0 0 false false 0 0 0 0 false 0 0 false 0 0 none 0 0) (h4C 0 0 0 false false 0 0 0 0 false 0 0 false 0 0 none 0 0) rfl (h4C_one _ _ _ _ _ _ _ _ _ _ _ _ _ _ _ _ _ _) rfl rfl hZ (szR4 _ _ _ _ _ _ _ _ _ _ _ _ _ _ _ _ _ _) ?_; intro W9 h9 g9)
    refine bodyPost_agg3 Try.results78 rfl rfl rfl h9.range u1 u2 (szR4 _ _ _ _ _ _ _ _ _ _ _ _ _ _ _ _ _ _) rfl (RetV.mk ?_)
    exact below_grown be g9 (by omega)
  · have qd6 : decide (32767 < (pl : Int)) = false := by simp only [decide_eq_false_iff_not]; omega
    have qd7 : decide (32767 < pl) = false := by simp only [decide_eq_false_iff_not]; omega
    have qd8 : decide ((ln : Int) < (sz : Int)) = true := by simp only [decide_eq_true_eq]; omega
    have qd9 : decide (ln < sz) = true := by simp only [decide_eq_true_eq]; omega
    go_wp2_with (refine at_op (.store 184 (.tmp 2) (.tmp 76)) rfl ?_; refine wpList_stA (t := 184) 184 (.tmp 2) (.tmp 76) rfl rfl (h4C 0 0 0 false false 0 0 0 0 false 0 0 false 0 0 none 0 0) (h4C 0 0 0 false false 0 0 0 0 false 0 0 false 0 0 none 0 0) rfl (h4C_one _ _ _ _ _ _ _ _ _ _ _ _ _ _ _ _ _ _) rfl rfl hZ (szR4 _ _ _ _ _ _ _ _ _ _ _ _ _ _ _ _ _ _) ?_; intro W9 h9 g9)
    refine bodyPost_agg3 Try.results78 rfl rfl rfl h9.range u1 u2 (szR4 _ _ _ _ _ _ _ _ _ _ _ _ _ _ _ _ _ _) rfl (RetV.mk ?_)
    exact below_grown be g9 (by omega)
  · have qd10 : decide (32767 < (pl : Int)) = false := by simp only [decide_eq_false_iff_not]; omega
    have qd11 : decide (32767 < pl) = false := by simp only [decide_eq_false_iff_not]; omega
    have qd12 : decide ((ln : Int) < (sz : Int)) = false := by simp only [decide_eq_false_iff_not]; omega
    have qd13 : decide (ln < sz) = false := by simp only [decide_eq_false_iff_not]; omega
    have qd14 : decide ((n : Int) < (ln : Int)) = true := by simp only [decide_eq_true_eq]; omega
    have qd15 : decide (n < ln) = true := by simp only [decide_eq_true_eq]; omega
    go_wp2_with (refine at_op (.store 184 (.tmp 2) (.tmp 82)) rfl ?_; refine wpList_stA (t := 184) 184 (.tmp 2) (.tmp 82) rfl rfl (h4C 0 0 0 false false 0 0 0 0 false 0 0 false 0 0 none 0 0) (h4C 0 0 0 false false 0 0 0 0 false 0 0 false 0 0 none 0 0) rfl (h4C_one _ _ _ _ _ _ _ _ _ _ _ _ _ _ _ _ _ _) rfl rfl hZ (szR4 _ _ _ _ _ _ _ _ _ _ _ _ _ _ _ _ _ _) ?_; intro W9 h9 g9)
    refine bodyPost_agg3 Try.results78 rfl rfl rfl h9.range u1 u2 (szR4 _ _ _ _ _ _ _ _ _ _ _ _ _ _ _ _ _ _) rfl (RetV.mk ?_)
    exact below_grown be g9 (by omega)
theorem refP4_f3 (A : Option Addr) (n c : Nat) (l : List UInt8) (w : World) (h : Rb w A n c l) (hm9 : n ≤ 1000000) (f ts ln id pl tl pr sm sa da : Nat) (st mo : Bool) (x0 : num ((l.drop 0).take 1) = f) (x1 : num ((l.drop 1).take 1) = ts) (x2 : num ((l.drop 2).take 2) = ln) (x3 : num ((l.drop 4).take 2) = id) (x4 : num ((l.drop 6).take 2) = pl) (x5 : num ((l.drop 8).take 1) = tl) (x6 : num ((l.drop 9).take 1) = pr) (x7 : num ((l.drop 10).take 2) = sm) (x8 : num ((l.drop 12).take 4) = sa) (x9 : num ((l.drop 16).take 4) = da) (hst : (pl / 16384 % 2 == 1) = st) (hmo : (pl / 8192 % 2 == 1) = mo) (hn : 20 ≤ n) (hb : f / 16 = 4) (hs : 20 ≤ 4 * (f % 16)) (hp9 : 32768 ≤ pl) : Calls Try.prog 78 #[.slice A n c] w (RetV w (.tuple #[.agg (h4C 0 0 0 false false 0 0 0 0 false 0 0 false 0 0 none 0 0).toArray, .slice none 0 0, .int .i64 21])) := refP4_e A n c l w h hm9 f ts ln id pl tl pr sm sa da st mo x0 x1 x2 x3 x4 x5 x6 x7 x8 x9 hst hmo hn hb hs _ (.inl ⟨hp9, rfl⟩)
theorem refP4_f4 (A : Option Addr) (n c : Nat) (l : List UInt8) (w : World) (h : Rb w A n c l) (hm9 : n ≤ 1000000) (f ts ln id pl tl pr sm sa da : Nat) (st mo : Bool) (x0 : num ((l.drop 0).take 1) = f) (x1 : num ((l.drop 1).take 1) = ts) (x2 : num ((l.drop 2).take 2) = ln) (x3 : num ((l.drop 4).take 2) = id) (x4 : num ((l.drop 6).take 2) = pl) (x5 : num ((l.drop 8).take 1) = tl) (x6 : num ((l.drop 9).take 1) = pr) (x7 : num ((l.drop 10).take 2) = sm) (x8 : num ((l.drop 12).take 4) = sa) (x9 : num ((l.drop 16).take 4) = da) (hst : (pl / 16384 % 2 == 1) = st) (hmo : (pl / 8192 % 2 == 1) = mo) (hn : 20 ≤ n) (hb : f / 16 = 4) (hs : 20 ≤ 4 * (f % 16)) (hp9 : pl < 32768) (hl9 : ln < 4 * (f % 16)) : Calls Try.prog 78 #[.slice A n c] w (RetV w (.tuple #[.agg (h4C 0 0 0 false false 0 0 0 0 false 0 0 false 0 0 none 0 0).toArray, .slice none 0 0, .int .i64 21])) := refP4_e A n c l w h hm9 f ts ln id pl tl pr sm sa da st mo x0 x1 x2 x3 x4 x5 x6 x7 x8 x9 hst hmo hn hb hs _ (.inr (.inl ⟨hp9, hl9, rfl⟩))
theorem refP4_l (A : Option Addr) (n c : Nat) (l : List UInt8) (w : World) (h : Rb w A n c l) (hm9 : n ≤ 1000000) (f ts ln id pl tl pr sm sa da : Nat) (st mo : Bool) (x0 : num ((l.drop 0).take 1) = f) (x1 : num ((l.drop 1).take 1) = ts) (x2 : num ((l.drop 2).take 2) = ln) (x3 : num ((l.drop 4).take 2) = id) (x4 : num ((l.drop 6).take 2) = pl) (x5 : num ((l.drop 8).take 1) = tl) (x6 : num ((l.drop 9).take 1) = pr) (x7 : num ((l.drop 10).take 2) = sm) (x8 : num ((l.drop 12).take 4) = sa) (x9 : num ((l.drop 16).take 4) = da) (hst : (pl / 16384 % 2 == 1) = st) (hmo : (pl / 8192 % 2 == 1) = mo) (hn : 20 ≤ n) (hb : f / 16 = 4) (hs : 20 ≤ 4 * (f % 16)) (hp9 : pl < 32768) (hl9 : 4 * (f % 16) ≤ ln) (hq : n < ln) : Calls Try.prog 78 #[.slice A n c] w (RetV w (.tuple #[.agg (h4C 0 0 0 false false 0 0 0 0 false 0 0 false 0 0 none 0 0).toArray, .slice none 0 0, .int .i64 20])) := refP4_e A n c l w h hm9 f ts ln id pl tl pr sm sa da st mo x0 x1 x2 x3 x4 x5 x6 x7 x8 x9 hst hmo hn hb hs _ (.inr (.inr ⟨hp9, hl9, hq, rfl⟩))
end Go.Proofs.Ytfmkndemkpecpaa

/- The reference's Parse of a header of IPv4: the checksum, the header. -/
namespace Go.Proofs.Ytfmkndemkpecpaa
open Go.RowKit
set_option linter.unusedVariables false
set_option linter.unusedSimpArgs false
attribute [local go_sem ↓] sliced_cut

attribute [local go_sem] cutA_zero

set_option maxHeartbeats 4000000 in
set_option maxRecDepth 100000 in
theorem refP4_sum (A : Option Addr) (n c : Nat) (l : List UInt8) (w : World) (h : Rb w A n c l) (hm9 : n ≤ 1000000) (f ts ln id pl tl pr sm sa da : Nat) (st mo : Bool) (x0 : num ((l.drop 0).take 1) = f) (x1 : num ((l.drop 1).take 1) = ts) (x2 : num ((l.drop 2).take 2) = ln) (x3 : num ((l.drop 4).take 2) = id) (x4 : num ((l.drop 6).take 2) = pl) (x5 : num ((l.drop 8).take 1) = tl) (x6 : num ((l.drop 9).take 1) = pr) (x7 : num ((l.drop 10).take 2) = sm) (x8 : num ((l.drop 12).take 4) = sa) (x9 : num ((l.drop 16).take 4) = da) (hst : (pl / 16384 % 2 == 1) = st) (hmo : (pl / 8192 % 2 == 1) = mo) (hn : 20 ≤ n) (hb : f / 16 = 4) (hs : 20 ≤ 4 * (f % 16)) (hp9 : pl < 32768) (hl9 : 4 * (f % 16) ≤ ln) (hq : ln ≤ n) (hck : 65535 - fd (tot false (l.take (4 * (f % 16)))) ≠ 0) : Calls Try.prog 78 #[.slice A n c] w (RetV w (.tuple #[.agg (h4C 0 0 0 false false 0 0 0 0 false 0 0 false 0 0 none 0 0).toArray, .slice none 0 0, .int .i64 22])) := by
  obtain ⟨du, u1, u2⟩ := rowR4
  have hc := h.2.1
  have hl := h.1
  have d20 : decide ((n : Int) < 20) = false := by simp only [decide_eq_false_iff_not]; omega
  have hf8 : f < 256 := by rw [← x0]; exact num_lt' l 0 1 256 (by decide)
  have hpl : pl < 65536 := by rw [← x4]; exact num_lt' l 6 2 65536 (by decide)
  have hln : ln < 65536 := by rw [← x2]; exact num_lt' l 2 2 65536 (by decide)
  have hid : id < 65536 := by rw [← x3]; exact num_lt' l 4 2 65536 (by decide)
  have hsm : sm < 65536 := by rw [← x7]; exact num_lt' l 10 2 65536 (by decide)
  obtain ⟨b, off, rfl, hbl, hcell⟩ := h.2.2.at_ (by rw [bcs_length, h.1]; omega)
  have y0 := num_cell hcell 0 (by rw [h.1]; omega)
  have y1 := num_cell hcell 1 (by rw [h.1]; omega)
  have y8 := num_cell hcell 8 (by rw [h.1]; omega)
  have y9 := num_cell hcell 9 (by rw [h.1]; omega)
  rw [x0] at y0
  rw [x1] at y1
  rw [x5] at y8
  rw [x6] at y9
  have i0 : (0 : Int) < (n : Int) := by omega
  have i1 : (1 : Int) < (n : Int) := by omega
  have i8 : (8 : Int) < (n : Int) := by omega
  have i9 : (9 : Int) < (n : Int) := by omega
  rw [Nat.add_zero] at y0
  clear hcell x0 x1 x5 x6
  obtain ⟨m, hm⟩ : ∃ m : Nat, m = f % 16 := ⟨_, rfl⟩
  have e1 : (f : Int) % 16 = (m : Int) := by omega
  obtain ⟨sz, hsz⟩ : ∃ s : Nat, s = 4 * m := ⟨_, rfl⟩
  have e2 : IntKind.i64.wrap ((m : Int) * 4) = (sz : Int) := by rw [IntWalk.i64_in _ (by omega)]; omega
  have e3 : IntKind.i64.wrap (m : Int) = (m : Int) := IntWalk.i64_in _ (by omega)
  replace x2 := Lib.hid x2
  replace x3 := Lib.hid x3
  replace x4 := Lib.hid x4
  replace x7 := Lib.hid x7
  replace x8 := Lib.hid x8
  replace x9 := Lib.hid x9
  have hb1 : (f : Int) / 16 = 4 := by omega
  have hb1n : ((f : Int) / 16 != 4) = false := by rw [hb1]; rfl
  have qd2 : decide ((sz : Int) < 20) = false := by simp only [decide_eq_false_iff_not]; omega
  have qd3 : decide (sz < 20) = false := by simp only [decide_eq_false_iff_not]; omega
  have qd16 : decide (32767 < (pl : Int)) = false := by simp only [decide_eq_false_iff_not]; omega
  have qd17 : decide (32767 < pl) = false := by simp only [decide_eq_false_iff_not]; omega
  have qd18 : decide ((ln : Int) < (sz : Int)) = false := by simp only [decide_eq_false_iff_not]; omega
  have qd19 : decide (ln < sz) = false := by simp only [decide_eq_false_iff_not]; omega
  have qd20 : decide ((n : Int) < (ln : Int)) = false := by simp only [decide_eq_false_iff_not]; omega
  have qd21 : decide (n < ln) = false := by simp only [decide_eq_false_iff_not]; omega
  obtain ⟨za, hza⟩ : ∃ p : Nat, p = pl / 16384 := ⟨_, rfl⟩
  obtain ⟨zb, hzb⟩ : ∃ p : Nat, p = za % 2 := ⟨_, rfl⟩
  obtain ⟨zc, hzc⟩ : ∃ p : Nat, p = pl / 8192 := ⟨_, rfl⟩
  obtain ⟨zd, hzd⟩ : ∃ p : Nat, p = zc % 2 := ⟨_, rfl⟩
  obtain ⟨fo, hfo⟩ : ∃ p : Nat, p = pl % 8192 := ⟨_, rfl⟩
  have v1 : (pl : Int) / 16384 = (za : Int) := by omega
  have v2 : (za : Int) % 2 = (zb : Int) := by omega
  have v3 : ((zb : Int) == 1) = st := by rw [← hst, ← hza, ← hzb, Bool.eq_iff_iff, beq_iff_eq, beq_iff_eq]; omega
  have v4 : (pl : Int) / 8192 = (zc : Int) := by omega
  have v5 : (zc : Int) % 2 = (zd : Int) := by omega
  have v6 : ((zd : Int) == 1) = mo := by rw [← hmo, ← hzc, ← hzd, Bool.eq_iff_iff, beq_iff_eq, beq_iff_eq]; omega
  have v7 : (pl : Int) % 8192 = (fo : Int) := by omega
  have hfo2 : fo < 8192 := by omega
  have m1 : (za : Int).tmod 2 = (zb : Int) := by rw [Int.tmod_eq_emod_of_nonneg (by omega)]; omega
  have m2 : (zc : Int).tmod 2 = (zd : Int) := by rw [Int.tmod_eq_emod_of_nonneg (by omega)]; omega
  have m3 : (pl : Int).tmod 8192 = (fo : Int) := by rw [Int.tmod_eq_emod_of_nonneg (by omega)]; omega
  have wp1 : IntKind.u64.wrap (za : Int) = (za : Int) := IntWalk.u64_in _ (by omega)
  have wp2 : IntKind.u64.wrap (zb : Int) = (zb : Int) := IntWalk.u64_in _ (by omega)
  have wp3 : IntKind.u64.wrap (zc : Int) = (zc : Int) := IntWalk.u64_in _ (by omega)
  have wp4 : IntKind.u64.wrap (zd : Int) = (zd : Int) := IntWalk.u64_in _ (by omega)
  have wfo : IntKind.u64.wrap (fo : Int) = (fo : Int) := IntWalk.u64_in _ (by omega)
  have v8 : IntKind.i64.wrap (fo : Int) = (fo : Int) := IntWalk.i64_in _ (by omega)
  have v9 : IntKind.i64.wrap (ln : Int) = (ln : Int) := IntWalk.i64_in _ (by omega)
  have va : IntKind.u16.wrap (id : Int) = (id : Int) := IntWalk.u16_in _ (by omega)
  have vb : IntKind.u16.wrap (sm : Int) = (sm : Int) := IntWalk.u16_in _ (by omega)
  clear hza hzb hzc hzd hfo hst hmo
  have hszn : sz ≤ n := by omega
  have hszc : ((sz : Nat) : Int) ≤ (c : Int) := by omega
  have hsz0 : (0 : Int) ≤ (sz : Int) := by omega
  have hts : Rb w (some ⟨b, off, none⟩) sz c (l.take sz) := h.take hszn
  have hs4 : 4 * (f % 16) = sz := by omega
  have HO := Lib.hid (fun w (h : Rb w (some ⟨b, off, none⟩) sz c (l.take sz)) => refSumOf _ _ _ _ w h (by omega))
  rw [hs4] at hck
  have hs1 : 65535 - fd (tot false (l.take sz)) ≤ 65535 := Nat.sub_le _ _
  generalize 65535 - fd (tot false (l.take sz)) = s at *
  have hck2 : ((s : Int) != 0) = true := by rw [bne_iff_ne]; omega
  clear hm hsz hb1 hs4 hck
  have hZ : Bk (w.alloc (.cells #[.int .u8 0, .int .i64 0, .int .u16 0, .bool false, .bool false, .int .i64 0, .int .u8 0, .int .u8 0, .int .u16 0, .bool false, .int .u64 0, .int .u64 0, .bool false, .int .u64 0, .int .u64 0, .slice none 0 0] 184)) w.heap.size 184 (h4C 0 0 0 false false 0 0 0 0 false 0 0 false 0 0 none 0 0) := Bk.new w 184 #[.int .u8 0, .int .i64 0, .int .u16 0, .bool false, .bool false, .int .i64 0, .int .u8 0, .int .u8 0, .int .u16 0, .bool false, .int .u64 0, .int .u64 0, .bool false, .int .u64 0, .int .u64 0, .slice none 0 0]
  have be : Below w.heap.size w (w.alloc (.cells #[.int .u8 0, .int .i64 0, .int .u16 0, .bool false, .bool false, .int .i64 0, .int .u8 0, .int .u8 0, .int .u16 0, .bool false, .int .u64 0, .int .u64 0, .bool false, .int .u64 0, .int .u64 0, .slice none 0 0] 184)) := Below.allocS (Below.refl _ _) _
  go_enter Try.func78, Try.ntmps78
  go_wp2_with fail
  refine (refGetV _ n c l _ _ 6 2 pl _ (h.alloc _) rfl rfl x4.out (by omega) (by omega) (by omega)).mono ?_
  rintro e w1 ⟨rfl, rfl⟩
  go_upto_region 7 with (fail)
  go_wp2
  refine wp_relE 31 103 [0, 3, 5, 6, 8, 9, 10, 11, 12, 13, 14, 15, 16, 17, 18, 19, 20, 23, 26, 28] rfl (by kernel_rfl) (by kernel_rfl) (fun i => match i with | 0 => MP.eq (.slice (some ⟨b, off, none⟩) n c) | 1 => MP.eq (.pointer (some ⟨b, off + 1, none⟩)) | 2 => MP.eq (.int .u8 (ts : Int)) | 3 => MP.eq (.slice (some ⟨b, off, none⟩) n c) | 4 => MP.eq (.int .u64 (ln : Int)) | 5 => MP.eq (.int .i64 (ln : Int)) | 6 => MP.eq (.slice (some ⟨b, off, none⟩) n c) | 7 => MP.eq (.int .u64 (id : Int)) | 8 => MP.eq (.int .u16 (id : Int)) | 9 => MP.eq (.int .u64 (pl : Int)) | 10 => MP.eq (.int .u64 (za : Int)) | 11 => MP.eq (.int .u64 (zb : Int)) | 12 => MP.eq (.bool st) | 13 => MP.eq (.int .u64 (pl : Int)) | 14 => MP.eq (.int .u64 (zc : Int)) | 15 => MP.eq (.int .u64 (zd : Int)) | 16 => MP.eq (.bool mo) | 17 => MP.eq (.int .u64 (pl : Int)) | 18 => MP.eq (.int .u64 (fo : Int)) | 19 => MP.eq (.int .i64 (fo : Int)) | 20 => MP.eq (.slice (some ⟨b, off, none⟩) n c) | 21 => MP.eq (.pointer (some ⟨b, off + 8, none⟩)) | 22 => MP.eq (.int .u8 (tl : Int)) | 23 => MP.eq (.slice (some ⟨b, off, none⟩) n c) | 24 => MP.eq (.pointer (some ⟨b, off + 9, none⟩)) | 25 => MP.eq (.int .u8 (pr : Int)) | 26 => MP.eq (.slice (some ⟨b, off, none⟩) n c) | 27 => MP.eq (.int .u64 (sm : Int)) | 28 => MP.eq (.int .u16 (sm : Int)) | 29 => MP.eq (.agg #[.int .u8 (ts : Int), .int .i64 (ln : Int), .int .u16 (id : Int), .bool st, .bool mo, .int .i64 (fo : Int), .int .u8 (tl : Int), .int .u8 (pr : Int), .int .u16 (sm : Int), .bool false, .int .u64 0, .int .u64 0, .bool false, .int .u64 0, .int .u64 0, .slice none 0 0]) | 30 => MP.blk (w.heap.size + 1) 184 (h4C 0 0 0 false false 0 0 0 0 false 0 0 false 0 0 none 0 0) | _ => MP.any) ?_ ?_
  · intro i hi o ho FA x hO hD
    match i, hi, ho, hO, hD with
    | 0, _, ho, hO, hD => 
      obtain rfl := Option.some.inj ho.symm
      clear ho
      have ev0 : FA.eval (.tmp 0) = .slice (some ⟨b, off, none⟩) n c := hO 0 (by kernel_rfl)
      have e0 : FA.tmps[0]?.getD undef = .slice (some ⟨b, off, none⟩) n c := by simpa [Act.eval] using ev0
      replace ev0 := Lib.hid ev0
      clear hO hD
      rw [if_pos (by decide)]
      refine ⟨.slice (some ⟨b, off, none⟩) n c, .inl ⟨by simp [Region.wanted], fun w => ?_⟩, rfl⟩
      go_simp
    | 1, _, ho, hO, hD => 
      obtain rfl := Option.some.inj ho.symm
      clear ho
      have ev30 : FA.eval (.tmp 30) = .slice (some ⟨b, off, none⟩) n c := hD 0 30 (by kernel_rfl)
      have e30 : FA.tmps[30]?.getD undef = .slice (some ⟨b, off, none⟩) n c := by simpa [Act.eval] using ev30
      replace ev30 := Lib.hid ev30
      clear hO hD
      rw [if_neg (by decide)]
      intro K hK
      go_simp
      exact hK.out _ _ (Ex.refl _) rfl
    | 2, _, ho, hO, hD => 
      obtain rfl := Option.some.inj ho.symm
      clear ho
      have ev31 : FA.eval (.tmp 31) = .pointer (some ⟨b, off + 1, none⟩) := hD 1 31 (by kernel_rfl)
      have e31 : FA.tmps[31]?.getD undef = .pointer (some ⟨b, off + 1, none⟩) := by simpa [Act.eval] using ev31
      replace ev31 := Lib.hid ev31
      clear hO hD
      rw [if_neg (by decide)]
      intro K hK
      go_simp
      exact hK.out _ _ (Ex.refl _) rfl
    | 3, _, ho, hO, hD => 
      obtain rfl := Option.some.inj ho.symm
      clear ho
      have ev0 : FA.eval (.tmp 0) = .slice (some ⟨b, off, none⟩) n c := hO 0 (by kernel_rfl)
      have e0 : FA.tmps[0]?.getD undef = .slice (some ⟨b, off, none⟩) n c := by simpa [Act.eval] using ev0
      replace ev0 := Lib.hid ev0
      clear hO hD
      rw [if_pos (by decide)]
      refine ⟨.slice (some ⟨b, off, none⟩) n c, .inl ⟨by simp [Region.wanted], fun w => ?_⟩, rfl⟩
      go_simp
    | 4, _, ho, hO, hD => 
      obtain rfl := Option.some.inj ho.symm
      clear ho
      have ev33 : FA.eval (.tmp 33) = .slice (some ⟨b, off, none⟩) n c := hD 3 33 (by kernel_rfl)
      have e33 : FA.tmps[33]?.getD undef = .slice (some ⟨b, off, none⟩) n c := by simpa [Act.eval] using ev33
      replace ev33 := Lib.hid ev33
      clear hO hD
      rw [if_neg (by decide)]
      intro K hK
      go_simp
      refine (refGetV _ n c l _ _ 2 2 ln _ ((h.alloc _).plus_ _ _) rfl rfl x2.out (by omega) (by omega) (by omega)).mono ?_
      rintro e w1 ⟨rfl, rfl⟩
      exact hK.out _ _ (Ex.refl _) rfl
    | 5, _, ho, hO, hD => 
      obtain rfl := Option.some.inj ho.symm
      clear ho
      have ev34 : FA.eval (.tmp 34) = .int .u64 (ln : Int) := hD 4 34 (by kernel_rfl)
      have e34 : FA.tmps[34]?.getD undef = .int .u64 (ln : Int) := by simpa [Act.eval] using ev34
      replace ev34 := Lib.hid ev34
      clear hO hD
      rw [if_pos (by decide)]
      refine ⟨.int .i64 (ln : Int), .inl ⟨by simp [Region.wanted], fun w => ?_⟩, rfl⟩
      go_simp
    | 6, _, ho, hO, hD => 
      obtain rfl := Option.some.inj ho.symm
      clear ho
      have ev0 : FA.eval (.tmp 0) = .slice (some ⟨b, off, none⟩) n c := hO 0 (by kernel_rfl)
      have e0 : FA.tmps[0]?.getD undef = .slice (some ⟨b, off, none⟩) n c := by simpa [Act.eval] using ev0
      replace ev0 := Lib.hid ev0
      clear hO hD
      rw [if_pos (by decide)]
      refine ⟨.slice (some ⟨b, off, none⟩) n c, .inl ⟨by simp [Region.wanted], fun w => ?_⟩, rfl⟩
      go_simp
    | 7, _, ho, hO, hD => 
      obtain rfl := Option.some.inj ho.symm
      clear ho
      have ev36 : FA.eval (.tmp 36) = .slice (some ⟨b, off, none⟩) n c := hD 6 36 (by kernel_rfl)
      have e36 : FA.tmps[36]?.getD undef = .slice (some ⟨b, off, none⟩) n c := by simpa [Act.eval] using ev36
      replace ev36 := Lib.hid ev36
      clear hO hD
      rw [if_neg (by decide)]
      intro K hK
      go_simp
      refine (refGetV _ n c l _ _ 4 2 id _ ((h.alloc _).plus_ _ _) rfl rfl x3.out (by omega) (by omega) (by omega)).mono ?_
      rintro e w1 ⟨rfl, rfl⟩
      exact hK.out _ _ (Ex.refl _) rfl
    | 8, _, ho, hO, hD => 
      obtain rfl := Option.some.inj ho.symm
      clear ho
      have ev37 : FA.eval (.tmp 37) = .int .u64 (id : Int) := hD 7 37 (by kernel_rfl)
      have e37 : FA.tmps[37]?.getD undef = .int .u64 (id : Int) := by simpa [Act.eval] using ev37
      replace ev37 := Lib.hid ev37
      clear hO hD
      rw [if_pos (by decide)]
      refine ⟨.int .u16 (id : Int), .inl ⟨by simp [Region.wanted], fun w => ?_⟩, rfl⟩
      go_simp
    | 9, _, ho, hO, hD => 
      obtain rfl := Option.some.inj ho.symm
      clear ho
      have ev6 : FA.eval (.tmp 6) = .int .u64 (pl : Int) := hO 6 (by kernel_rfl)
      have e6 : FA.tmps[6]?.getD undef = .int .u64 (pl : Int) := by simpa [Act.eval] using ev6
      replace ev6 := Lib.hid ev6
      clear hO hD
      rw [if_pos (by decide)]
      refine ⟨.int .u64 (pl : Int), .inl ⟨by simp [Region.wanted], fun w => ?_⟩, rfl⟩
      go_simp
    | 10, _, ho, hO, hD => 
      obtain rfl := Option.some.inj ho.symm
      clear ho
      have ev39 : FA.eval (.tmp 39) = .int .u64 (pl : Int) := hD 9 39 (by kernel_rfl)
      have e39 : FA.tmps[39]?.getD undef = .int .u64 (pl : Int) := by simpa [Act.eval] using ev39
      replace ev39 := Lib.hid ev39
      clear hO hD
      rw [if_pos (by decide)]
      refine ⟨.int .u64 (za : Int), .inl ⟨by simp [Region.wanted], fun w => ?_⟩, rfl⟩
      go_simp
    | 11, _, ho, hO, hD => 
      obtain rfl := Option.some.inj ho.symm
      clear ho
      have ev40 : FA.eval (.tmp 40) = .int .u64 (za : Int) := hD 10 40 (by kernel_rfl)
      have e40 : FA.tmps[40]?.getD undef = .int .u64 (za : Int) := by simpa [Act.eval] using ev40
      replace ev40 := Lib.hid ev40
      clear hO hD
      rw [if_pos (by decide)]
      refine ⟨.int .u64 (zb : Int), .inl ⟨by simp [Region.wanted], fun w => ?_⟩, rfl⟩
      go_simp
    | 12, _, ho, hO, hD => 
      obtain rfl := Option.some.inj ho.symm
      clear ho
      have ev41 : FA.eval (.tmp 41) = .int .u64 (zb : Int) := hD 11 41 (by kernel_rfl)
      have e41 : FA.tmps[41]?.getD undef = .int .u64 (zb : Int) := by simpa [Act.eval] using ev41
      replace ev41 := Lib.hid ev41
      clear hO hD
      rw [if_pos (by decide)]
      refine ⟨.bool st, .inl ⟨by simp [Region.wanted], fun w => ?_⟩, rfl⟩
      go_simp
    | 13, _, ho, hO, hD => 
      obtain rfl := Option.some.inj ho.symm
      clear ho
      have ev6 : FA.eval (.tmp 6) = .int .u64 (pl : Int) := hO 6 (by kernel_rfl)
      have e6 : FA.tmps[6]?.getD undef = .int .u64 (pl : Int) := by simpa [Act.eval] using ev6
      replace ev6 := Lib.hid ev6
      clear hO hD
      rw [if_pos (by decide)]
      refine ⟨.int .u64 (pl : Int), .inl ⟨by simp [Region.wanted], fun w => ?_⟩, rfl⟩
      go_simp
    | 14, _, ho, hO, hD => 
      obtain rfl := Option.some.inj ho.symm
      clear ho
      have ev43 : FA.eval (.tmp 43) = .int .u64 (pl : Int) := hD 13 43 (by kernel_rfl)
      have e43 : FA.tmps[43]?.getD undef = .int .u64 (pl : Int) := by simpa [Act.eval] using ev43
      replace ev43 := Lib.hid ev43
      clear hO hD
      rw [if_pos (by decide)]
      refine ⟨.int .u64 (zc : Int), .inl ⟨by simp [Region.wanted], fun w => ?_⟩, rfl⟩
      go_simp
    | 15, _, ho, hO, hD => 
      obtain rfl := Option.some.inj ho.symm
      clear ho
      have ev44 : FA.eval (.tmp 44) = .int .u64 (zc : Int) := hD 14 44 (by kernel_rfl)
      have e44 : FA.tmps[44]?.getD undef = .int .u64 (zc : Int) := by simpa [Act.eval] using ev44
      replace ev44 := Lib.hid ev44
      clear hO hD
      rw [if_pos (by decide)]
      refine ⟨.int .u64 (zd : Int), .inl ⟨by simp [Region.wanted], fun w => ?_⟩, rfl⟩
      go_simp
    | 16, _, ho, hO, hD => 
      obtain rfl := Option.some.inj ho.symm
      clear ho
      have ev45 : FA.eval (.tmp 45) = .int .u64 (zd : Int) := hD 15 45 (by kernel_rfl)
      have e45 : FA.tmps[45]?.getD undef = .int .u64 (zd : Int) := by simpa [Act.eval] using ev45
      replace ev45 := Lib.hid ev45
      clear hO hD
      rw [if_pos (by decide)]
      refine ⟨.bool mo, .inl ⟨by simp [Region.wanted], fun w => ?_⟩, rfl⟩
      go_simp
    | 17, _, ho, hO, hD => 
      obtain rfl := Option.some.inj ho.symm
      clear ho
      have ev6 : FA.eval (.tmp 6) = .int .u64 (pl : Int) := hO 6 (by kernel_rfl)
      have e6 : FA.tmps[6]?.getD undef = .int .u64 (pl : Int) := by simpa [Act.eval] using ev6
      replace ev6 := Lib.hid ev6
      clear hO hD
      rw [if_pos (by decide)]
      refine ⟨.int .u64 (pl : Int), .inl ⟨by simp [Region.wanted], fun w => ?_⟩, rfl⟩
      go_simp
    | 18, _, ho, hO, hD => 
      obtain rfl := Option.some.inj ho.symm
      clear ho
      have ev47 : FA.eval (.tmp 47) = .int .u64 (pl : Int) := hD 17 47 (by kernel_rfl)
      have e47 : FA.tmps[47]?.getD undef = .int .u64 (pl : Int) := by simpa [Act.eval] using ev47
      replace ev47 := Lib.hid ev47
      clear hO hD
      rw [if_pos (by decide)]
      refine ⟨.int .u64 (fo : Int), .inl ⟨by simp [Region.wanted], fun w => ?_⟩, rfl⟩
      go_simp
    | 19, _, ho, hO, hD => 
      obtain rfl := Option.some.inj ho.symm
      clear ho
      have ev48 : FA.eval (.tmp 48) = .int .u64 (fo : Int) := hD 18 48 (by kernel_rfl)
      have e48 : FA.tmps[48]?.getD undef = .int .u64 (fo : Int) := by simpa [Act.eval] using ev48
      replace ev48 := Lib.hid ev48
      clear hO hD
      rw [if_pos (by decide)]
      refine ⟨.int .i64 (fo : Int), .inl ⟨by simp [Region.wanted], fun w => ?_⟩, rfl⟩
      go_simp
    | 20, _, ho, hO, hD => 
      obtain rfl := Option.some.inj ho.symm
      clear ho
      have ev0 : FA.eval (.tmp 0) = .slice (some ⟨b, off, none⟩) n c := hO 0 (by kernel_rfl)
      have e0 : FA.tmps[0]?.getD undef = .slice (some ⟨b, off, none⟩) n c := by simpa [Act.eval] using ev0
      replace ev0 := Lib.hid ev0
      clear hO hD
      rw [if_pos (by decide)]
      refine ⟨.slice (some ⟨b, off, none⟩) n c, .inl ⟨by simp [Region.wanted], fun w => ?_⟩, rfl⟩
      go_simp
    | 21, _, ho, hO, hD => 
      obtain rfl := Option.some.inj ho.symm
      clear ho
      have ev50 : FA.eval (.tmp 50) = .slice (some ⟨b, off, none⟩) n c := hD 20 50 (by kernel_rfl)
      have e50 : FA.tmps[50]?.getD undef = .slice (some ⟨b, off, none⟩) n c := by simpa [Act.eval] using ev50
      replace ev50 := Lib.hid ev50
      clear hO hD
      rw [if_neg (by decide)]
      intro K hK
      go_simp
      exact hK.out _ _ (Ex.refl _) rfl
    | 22, _, ho, hO, hD => 
      obtain rfl := Option.some.inj ho.symm
      clear ho
      have ev51 : FA.eval (.tmp 51) = .pointer (some ⟨b, off + 8, none⟩) := hD 21 51 (by kernel_rfl)
      have e51 : FA.tmps[51]?.getD undef = .pointer (some ⟨b, off + 8, none⟩) := by simpa [Act.eval] using ev51
      replace ev51 := Lib.hid ev51
      clear hO hD
      rw [if_neg (by decide)]
      intro K hK
      go_simp
      exact hK.out _ _ (Ex.refl _) rfl
    | 23, _, ho, hO, hD => 
      obtain rfl := Option.some.inj ho.symm
      clear ho
      have ev0 : FA.eval (.tmp 0) = .slice (some ⟨b, off, none⟩) n c := hO 0 (by kernel_rfl)
      have e0 : FA.tmps[0]?.getD undef = .slice (some ⟨b, off, none⟩) n c := by simpa [Act.eval] using ev0
      replace ev0 := Lib.hid ev0
      clear hO hD
      rw [if_pos (by decide)]
      refine ⟨.slice (some ⟨b, off, none⟩) n c, .inl ⟨by simp [Region.wanted], fun w => ?_⟩, rfl⟩
      go_simp
    | 24, _, ho, hO, hD => 
      obtain rfl := Option.some.inj ho.symm
      clear ho
      have ev53 : FA.eval (.tmp 53) = .slice (some ⟨b, off, none⟩) n c := hD 23 53 (by kernel_rfl)
      have e53 : FA.tmps[53]?.getD undef = .slice (some ⟨b, off, none⟩) n c := by simpa [Act.eval] using ev53
      replace ev53 := Lib.hid ev53
      clear hO hD
      rw [if_neg (by decide)]
      intro K hK
      go_simp
      exact hK.out _ _ (Ex.refl _) rfl
    | 25, _, ho, hO, hD => 
      obtain rfl := Option.some.inj ho.symm
      clear ho
      have ev54 : FA.eval (.tmp 54) = .pointer (some ⟨b, off + 9, none⟩) := hD 24 54 (by kernel_rfl)
      have e54 : FA.tmps[54]?.getD undef = .pointer (some ⟨b, off + 9, none⟩) := by simpa [Act.eval] using ev54
      replace ev54 := Lib.hid ev54
      clear hO hD
      rw [if_neg (by decide)]
      intro K hK
      go_simp
      exact hK.out _ _ (Ex.refl _) rfl
    | 26, _, ho, hO, hD => 
      obtain rfl := Option.some.inj ho.symm
      clear ho
      have ev0 : FA.eval (.tmp 0) = .slice (some ⟨b, off, none⟩) n c := hO 0 (by kernel_rfl)
      have e0 : FA.tmps[0]?.getD undef = .slice (some ⟨b, off, none⟩) n c := by simpa [Act.eval] using ev0
      replace ev0 := Lib.hid ev0
      clear hO hD
      rw [if_pos (by decide)]
      refine ⟨.slice (some ⟨b, off, none⟩) n c, .inl ⟨by simp [Region.wanted], fun w => ?_⟩, rfl⟩
      go_simp
    | 27, _, ho, hO, hD => 
      obtain rfl := Option.some.inj ho.symm
      clear ho
      have ev56 : FA.eval (.tmp 56) = .slice (some ⟨b, off, none⟩) n c := hD 26 56 (by kernel_rfl)
      have e56 : FA.tmps[56]?.getD undef = .slice (some ⟨b, off, none⟩) n c := by simpa [Act.eval] using ev56
      replace ev56 := Lib.hid ev56
      clear hO hD
      rw [if_neg (by decide)]
      intro K hK
      go_simp
      refine (refGetV _ n c l _ _ 10 2 sm _ ((h.alloc _).plus_ _ _) rfl rfl x7.out (by omega) (by omega) (by omega)).mono ?_
      rintro e w1 ⟨rfl, rfl⟩
      exact hK.out _ _ (Ex.refl _) rfl
    | 28, _, ho, hO, hD => 
      obtain rfl := Option.some.inj ho.symm
      clear ho
      have ev57 : FA.eval (.tmp 57) = .int .u64 (sm : Int) := hD 27 57 (by kernel_rfl)
      have e57 : FA.tmps[57]?.getD undef = .int .u64 (sm : Int) := by simpa [Act.eval] using ev57
      replace ev57 := Lib.hid ev57
      clear hO hD
      rw [if_pos (by decide)]
      refine ⟨.int .u16 (sm : Int), .inl ⟨by simp [Region.wanted], fun w => ?_⟩, rfl⟩
      go_simp
    | 29, _, ho, hO, hD => 
      obtain rfl := Option.some.inj ho.symm
      clear ho
      have ev32 : FA.eval (.tmp 32) = .int .u8 (ts : Int) := hD 2 32 (by kernel_rfl)
      have e32 : FA.tmps[32]?.getD undef = .int .u8 (ts : Int) := by simpa [Act.eval] using ev32
      replace ev32 := Lib.hid ev32
      have ev35 : FA.eval (.tmp 35) = .int .i64 (ln : Int) := hD 5 35 (by kernel_rfl)
      have e35 : FA.tmps[35]?.getD undef = .int .i64 (ln : Int) := by simpa [Act.eval] using ev35
      replace ev35 := Lib.hid ev35
      have ev38 : FA.eval (.tmp 38) = .int .u16 (id : Int) := hD 8 38 (by kernel_rfl)
      have e38 : FA.tmps[38]?.getD undef = .int .u16 (id : Int) := by simpa [Act.eval] using ev38
      replace ev38 := Lib.hid ev38
      have ev42 : FA.eval (.tmp 42) = .bool st := hD 12 42 (by kernel_rfl)
      have e42 : FA.tmps[42]?.getD undef = .bool st := by simpa [Act.eval] using ev42
      replace ev42 := Lib.hid ev42
      have ev46 : FA.eval (.tmp 46) = .bool mo := hD 16 46 (by kernel_rfl)
      have e46 : FA.tmps[46]?.getD undef = .bool mo := by simpa [Act.eval] using ev46
      replace ev46 := Lib.hid ev46
      have ev49 : FA.eval (.tmp 49) = .int .i64 (fo : Int) := hD 19 49 (by kernel_rfl)
      have e49 : FA.tmps[49]?.getD undef = .int .i64 (fo : Int) := by simpa [Act.eval] using ev49
      replace ev49 := Lib.hid ev49
      have ev52 : FA.eval (.tmp 52) = .int .u8 (tl : Int) := hD 22 52 (by kernel_rfl)
      have e52 : FA.tmps[52]?.getD undef = .int .u8 (tl : Int) := by simpa [Act.eval] using ev52
      replace ev52 := Lib.hid ev52
      have ev55 : FA.eval (.tmp 55) = .int .u8 (pr : Int) := hD 25 55 (by kernel_rfl)
      have e55 : FA.tmps[55]?.getD undef = .int .u8 (pr : Int) := by simpa [Act.eval] using ev55
      replace ev55 := Lib.hid ev55
      have ev58 : FA.eval (.tmp 58) = .int .u16 (sm : Int) := hD 28 58 (by kernel_rfl)
      have e58 : FA.tmps[58]?.getD undef = .int .u16 (sm : Int) := by simpa [Act.eval] using ev58
      replace ev58 := Lib.hid ev58
      clear hO hD
      rw [if_neg (by decide)]
      intro K hK
      go_simp
      exact hK.out _ _ (Ex.refl _) rfl
    | 30, _, ho, hO, hD => 
      obtain rfl := Option.some.inj ho.symm
      clear ho
      clear hO hD
      rw [if_neg (by decide)]
      intro K hK
      go_simp
      refine hK.out _ _ (Ex.alloc _ _) ⟨_, rfl, ?_, ?_⟩
      · simp [size_plus]
      · refine Bk.newK _ _ _ ?_ rfl
        simp [size_plus]
    | (k + 31), hi, _, _, _ => exact absurd hi (by omega)
  intro vs x hp
  have p0 : vs 0 = .slice (some ⟨b, off, none⟩) n c := hp 0 (by omega)
  have p1 : vs 1 = .pointer (some ⟨b, off + 1, none⟩) := hp 1 (by omega)
  have p2 : vs 2 = .int .u8 (ts : Int) := hp 2 (by omega)
  have p3 : vs 3 = .slice (some ⟨b, off, none⟩) n c := hp 3 (by omega)
  have p4 : vs 4 = .int .u64 (ln : Int) := hp 4 (by omega)
  have p5 : vs 5 = .int .i64 (ln : Int) := hp 5 (by omega)
  have p6 : vs 6 = .slice (some ⟨b, off, none⟩) n c := hp 6 (by omega)
  have p7 : vs 7 = .int .u64 (id : Int) := hp 7 (by omega)
  have p8 : vs 8 = .int .u16 (id : Int) := hp 8 (by omega)
  have p9 : vs 9 = .int .u64 (pl : Int) := hp 9 (by omega)
  have p10 : vs 10 = .int .u64 (za : Int) := hp 10 (by omega)
  have p11 : vs 11 = .int .u64 (zb : Int) := hp 11 (by omega)
  have p12 : vs 12 = .bool st := hp 12 (by omega)
  have p13 : vs 13 = .int .u64 (pl : Int) := hp 13 (by omega)
  have p14 : vs 14 = .int .u64 (zc : Int) := hp 14 (by omega)
  have p15 : vs 15 = .int .u64 (zd : Int) := hp 15 (by omega)
  have p16 : vs 16 = .bool mo := hp 16 (by omega)
  have p17 : vs 17 = .int .u64 (pl : Int) := hp 17 (by omega)
  have p18 : vs 18 = .int .u64 (fo : Int) := hp 18 (by omega)
  have p19 : vs 19 = .int .i64 (fo : Int) := hp 19 (by omega)
  have p20 : vs 20 = .slice (some ⟨b, off, none⟩) n c := hp 20 (by omega)
  have p21 : vs 21 = .pointer (some ⟨b, off + 8, none⟩) := hp 21 (by omega)
  have p22 : vs 22 = .int .u8 (tl : Int) := hp 22 (by omega)
  have p23 : vs 23 = .slice (some ⟨b, off, none⟩) n c := hp 23 (by omega)
  have p24 : vs 24 = .pointer (some ⟨b, off + 9, none⟩) := hp 24 (by omega)
  have p25 : vs 25 = .int .u8 (pr : Int) := hp 25 (by omega)
  have p26 : vs 26 = .slice (some ⟨b, off, none⟩) n c := hp 26 (by omega)
  have p27 : vs 27 = .int .u64 (sm : Int) := hp 27 (by omega)
  have p28 : vs 28 = .int .u16 (sm : Int) := hp 28 (by omega)
  have p29 : vs 29 = .agg #[.int .u8 (ts : Int), .int .i64 (ln : Int), .int .u16 (id : Int), .bool st, .bool mo, .int .i64 (fo : Int), .int .u8 (tl : Int), .int .u8 (pr : Int), .int .u16 (sm : Int), .bool false, .int .u64 0, .int .u64 0, .bool false, .int .u64 0, .int .u64 0, .slice none 0 0] := hp 29 (by omega)
  have p30 := hp 30 (by omega)
  clear hp
  simp only [List.take_succ_cons, List.take_zero, List.drop_succ_cons, List.drop_zero, putAll, Nat.zero_add, Nat.reduceAdd, Act.put, List.setIfInBounds_toArray, List.set_cons_zero, List.set_cons_succ, p0, p1, p2, p3, p4, p5, p6, p7, p8, p9, p10, p11, p12, p13, p14, p15, p16, p17, p18, p19, p20, p21, p22, p23, p24, p25, p26, p27, p28, p29]
  clear p0 p1 p2 p3 p4 p5 p6 p7 p8 p9 p10 p11 p12 p13 p14 p15 p16 p17 p18 p19 p20 p21 p22 p23 p24 p25 p26 p27 p28 p29
  generalize vs 30 = y30 at *
  clear vs
  obtain ⟨g, rfl, hgw, hb⟩ := p30
  go_upto_region 8 with (refine at_op (.store 184 (.tmp 7) (.tmp 59)) rfl ?_; refine wpList_stA (t := 184) 184 (.tmp 7) (.tmp 59) rfl rfl ([.int .u8 (ts : Int), .int .i64 (ln : Int), .int .u16 (id : Int), .bool st, .bool mo, .int .i64 (fo : Int), .int .u8 (tl : Int), .int .u8 (pr : Int), .int .u16 (sm : Int), .bool false, .int .u64 0, .int .u64 0, .bool false, .int .u64 0, .int .u64 0, .slice none 0 0]) (h4C 0 0 0 false false 0 0 0 0 false 0 0 false 0 0 none 0 0) rfl (by simp [Value.oneCell']) rfl rfl hb (by kernel_rfl) ?_; intro w3 hX hg3)
  replace hZ := (hZ.later (below_plus _ x.bs x.d)).grown hg3 (by simp; omega)
  replace be := below_grown (belowP be x.bs x.d) hg3 (by omega)
  clear hg3 hb
  refine NoPanic.normal ?_
  go_wp2_with fail
  refine (refGetV _ n c l _ _ 12 4 sa _ (h.later be) rfl rfl x8.out (by omega) (by omega) (by omega)).mono ?_
  rintro e w1 ⟨rfl, rfl⟩
  have zx := hX.lt
  go_upto_region 9 with (refine at_op (.store 26 (.tmp 63) (.tmp 62)) rfl ?_; refine wpList_stM (t := 184) 26 (.tmp 63) (.tmp 62) rfl rfl (adC false 0 sa) _ (by simp [adC]) (adC_one _ _ _) rfl rfl hX (szAd _ _ _) ?_; intro w4 hX2 hg)
  simp only [splice, adC, List.take_succ_cons, List.take_zero, List.drop_succ_cons, List.drop_zero, List.length_cons, List.length_nil, Nat.zero_add, Nat.reduceAdd, List.cons_append, List.nil_append] at hX2
  replace hZ := hZ.grown hg (by simp; omega)
  replace be := below_grown be hg (by omega)
  clear hX hg zx
  have hX := hX2
  clear hX2
  go_wp2_with fail
  refine (refGetV _ n c l _ _ 16 4 da _ (h.later be) rfl rfl x9.out (by omega) (by omega) (by omega)).mono ?_
  rintro e w1 ⟨rfl, rfl⟩
  have zx := hX.lt
  go_upto_region 10 with (refine at_op (.store 26 (.tmp 67) (.tmp 66)) rfl ?_; refine wpList_stM (t := 184) 26 (.tmp 67) (.tmp 66) rfl rfl (adC false 0 da) _ (by simp [adC]) (adC_one _ _ _) rfl rfl hX (szAd _ _ _) ?_; intro w5 hX2 hg)
  simp only [splice, adC, List.take_succ_cons, List.take_zero, List.drop_succ_cons, List.drop_zero, List.length_cons, List.length_nil, Nat.zero_add, Nat.reduceAdd, List.cons_append, List.nil_append] at hX2
  replace hZ := hZ.grown hg (by simp; omega)
  replace be := below_grown be hg (by omega)
  clear hX hg zx
  have hX := hX2
  clear hX2
  have yl : w5.cell? ⟨g, 1, none⟩ = some (.int .i64 (ln : Int)) := hX.cell 1
  have zx := hX.lt
  go_wp2_with fail
  refine (HO.out _ (hts.later be)).mono ?_
  rintro e w1 ⟨rfl, rfl⟩
  go_wp2_with (refine at_op (.store 184 (.tmp 2) (.tmp 88)) rfl ?_; refine wpList_stA (t := 184) 184 (.tmp 2) (.tmp 88) rfl rfl (h4C 0 0 0 false false 0 0 0 0 false 0 0 false 0 0 none 0 0) (h4C 0 0 0 false false 0 0 0 0 false 0 0 false 0 0 none 0 0) rfl (h4C_one _ _ _ _ _ _ _ _ _ _ _ _ _ _ _ _ _ _) rfl rfl hZ (szR4 _ _ _ _ _ _ _ _ _ _ _ _ _ _ _ _ _ _) ?_; intro W9 h9 g9)
  refine bodyPost_agg3 Try.results78 rfl rfl rfl h9.range u1 u2 (szR4 _ _ _ _ _ _ _ _ _ _ _ _ _ _ _ _ _ _) rfl (RetV.mk ?_)
  exact below_grown be g9 (by omega)
set_option maxHeartbeats 4000000 in
set_option maxRecDepth 100000 in
theorem refP4_ok (A : Option Addr) (n c : Nat) (l : List UInt8) (w : World) (h : Rb w A n c l) (hm9 : n ≤ 1000000) (f ts ln id pl tl pr sm sa da : Nat) (st mo : Bool) (x0 : num ((l.drop 0).take 1) = f) (x1 : num ((l.drop 1).take 1) = ts) (x2 : num ((l.drop 2).take 2) = ln) (x3 : num ((l.drop 4).take 2) = id) (x4 : num ((l.drop 6).take 2) = pl) (x5 : num ((l.drop 8).take 1) = tl) (x6 : num ((l.drop 9).take 1) = pr) (x7 : num ((l.drop 10).take 2) = sm) (x8 : num ((l.drop 12).take 4) = sa) (x9 : num ((l.drop 16).take 4) = da) (hst : (pl / 16384 % 2 == 1) = st) (hmo : (pl / 8192 % 2 == 1) = mo) (hn : 20 ≤ n) (hb : f / 16 = 4) (hs : 20 ≤ 4 * (f % 16)) (hp9 : pl < 32768) (hl9 : 4 * (f % 16) ≤ ln) (hq : ln ≤ n) (hck : 65535 - fd (tot false (l.take (4 * (f % 16)))) = 0) : Calls Try.prog 78 #[.slice A n c] w (RetP4 w ts ln id st mo (pl % 8192) tl pr sm sa da ((l.drop 20).take (4 * (f % 16) - 20)) ((l.drop (4 * (f % 16))).take (ln - 4 * (f % 16)))) := by
  obtain ⟨du, u1, u2⟩ := rowR4
  have hc := h.2.1
  have hl := h.1
  have d20 : decide ((n : Int) < 20) = false := by simp only [decide_eq_false_iff_not]; omega
  have hf8 : f < 256 := by rw [← x0]; exact num_lt' l 0 1 256 (by decide)
  have hpl : pl < 65536 := by rw [← x4]; exact num_lt' l 6 2 65536 (by decide)
  have hln : ln < 65536 := by rw [← x2]; exact num_lt' l 2 2 65536 (by decide)
  have hid : id < 65536 := by rw [← x3]; exact num_lt' l 4 2 65536 (by decide)
  have hsm : sm < 65536 := by rw [← x7]; exact num_lt' l 10 2 65536 (by decide)
  obtain ⟨b, off, rfl, hbl, hcell⟩ := h.2.2.at_ (by rw [bcs_length, h.1]; omega)
  have y0 := num_cell hcell 0 (by rw [h.1]; omega)
  have y1 := num_cell hcell 1 (by rw [h.1]; omega)
  have y8 := num_cell hcell 8 (by rw [h.1]; omega)
  have y9 := num_cell hcell 9 (by rw [h.1]; omega)
  rw [x0] at y0
  rw [x1] at y1
  rw [x5] at y8
  rw [x6] at y9
  have i0 : (0 : Int) < (n : Int) := by omega
  have i1 : (1 : Int) < (n : Int) := by omega
  have i8 : (8 : Int) < (n : Int) := by omega
  have i9 : (9 : Int) < (n : Int) := by omega
  rw [Nat.add_zero] at y0
  clear hcell x0 x1 x5 x6
  obtain ⟨m, hm⟩ : ∃ m : Nat, m = f % 16 := ⟨_, rfl⟩
  have e1 : (f : Int) % 16 = (m : Int) := by omega
  obtain ⟨sz, hsz⟩ : ∃ s : Nat, s = 4 * m := ⟨_, rfl⟩
  have e2 : IntKind.i64.wrap ((m : Int) * 4) = (sz : Int) := by rw [IntWalk.i64_in _ (by omega)]; omega
  have e3 : IntKind.i64.wrap (m : Int) = (m : Int) := IntWalk.i64_in _ (by omega)
  replace x2 := Lib.hid x2
  replace x3 := Lib.hid x3
  replace x4 := Lib.hid x4
  replace x7 := Lib.hid x7
  replace x8 := Lib.hid x8
  replace x9 := Lib.hid x9
  have hb1 : (f : Int) / 16 = 4 := by omega
  have hb1n : ((f : Int) / 16 != 4) = false := by rw [hb1]; rfl
  have qd2 : decide ((sz : Int) < 20) = false := by simp only [decide_eq_false_iff_not]; omega
  have qd3 : decide (sz < 20) = false := by simp only [decide_eq_false_iff_not]; omega
  have qd16 : decide (32767 < (pl : Int)) = false := by simp only [decide_eq_false_iff_not]; omega
  have qd17 : decide (32767 < pl) = false := by simp only [decide_eq_false_iff_not]; omega
  have qd18 : decide ((ln : Int) < (sz : Int)) = false := by simp only [decide_eq_false_iff_not]; omega
  have qd19 : decide (ln < sz) = false := by simp only [decide_eq_false_iff_not]; omega
  have qd20 : decide ((n : Int) < (ln : Int)) = false := by simp only [decide_eq_false_iff_not]; omega
  have qd21 : decide (n < ln) = false := by simp only [decide_eq_false_iff_not]; omega
  obtain ⟨za, hza⟩ : ∃ p : Nat, p = pl / 16384 := ⟨_, rfl⟩
  obtain ⟨zb, hzb⟩ : ∃ p : Nat, p = za % 2 := ⟨_, rfl⟩
  obtain ⟨zc, hzc⟩ : ∃ p : Nat, p = pl / 8192 := ⟨_, rfl⟩
  obtain ⟨zd, hzd⟩ : ∃ p : Nat, p = zc % 2 := ⟨_, rfl⟩
  obtain ⟨fo, hfo⟩ : ∃ p : Nat, p = pl % 8192 := ⟨_, rfl⟩
  have v1 : (pl : Int) / 16384 = (za : Int) := by omega
  have v2 : (za : Int) % 2 = (zb : Int) := by omega
  have v3 : ((zb : Int) == 1) = st := by rw [← hst, ← hza, ← hzb, Bool.eq_iff_iff, beq_iff_eq, beq_iff_eq]; omega
  have v4 : (pl : Int) / 8192 = (zc : Int) := by omega
  have v5 : (zc : Int) % 2 = (zd : Int) := by omega
  have v6 : ((zd : Int) == 1) = mo := by rw [← hmo, ← hzc, ← hzd, Bool.eq_iff_iff, beq_iff_eq, beq_iff_eq]; omega
  have v7 : (pl : Int) % 8192 = (fo : Int) := by omega
  have hfo2 : fo < 8192 := by omega
  have m1 : (za : Int).tmod 2 = (zb : Int) := by rw [Int.tmod_eq_emod_of_nonneg (by omega)]; omega
  have m2 : (zc : Int).tmod 2 = (zd : Int) := by rw [Int.tmod_eq_emod_of_nonneg (by omega)]; omega
  have m3 : (pl : Int).tmod 8192 = (fo : Int) := by rw [Int.tmod_eq_emod_of_nonneg (by omega)]; omega
  have wp1 : IntKind.u64.wrap (za : Int) = (za : Int) := IntWalk.u64_in _ (by omega)
  have wp2 : IntKind.u64.wrap (zb : Int) = (zb : Int) := IntWalk.u64_in _ (by omega)
  have wp3 : IntKind.u64.wrap (zc : Int) = (zc : Int) := IntWalk.u64_in _ (by omega)
  have wp4 : IntKind.u64.wrap (zd : Int) = (zd : Int) := IntWalk.u64_in _ (by omega)
  have wfo : IntKind.u64.wrap (fo : Int) = (fo : Int) := IntWalk.u64_in _ (by omega)
  have v8 : IntKind.i64.wrap (fo : Int) = (fo : Int) := IntWalk.i64_in _ (by omega)
  have v9 : IntKind.i64.wrap (ln : Int) = (ln : Int) := IntWalk.i64_in _ (by omega)
  have va : IntKind.u16.wrap (id : Int) = (id : Int) := IntWalk.u16_in _ (by omega)
  have vb : IntKind.u16.wrap (sm : Int) = (sm : Int) := IntWalk.u16_in _ (by omega)
  rw [← hfo]
  clear hza hzb hzc hzd hfo hst hmo
  have hszn : sz ≤ n := by omega
  have hszc : ((sz : Nat) : Int) ≤ (c : Int) := by omega
  have hsz0 : (0 : Int) ≤ (sz : Int) := by omega
  have hts : Rb w (some ⟨b, off, none⟩) sz c (l.take sz) := h.take hszn
  have hs4 : 4 * (f % 16) = sz := by omega
  have HO := Lib.hid (fun w (h : Rb w (some ⟨b, off, none⟩) sz c (l.take sz)) => refSumOf _ _ _ _ w h (by omega))
  rw [hs4] at hck
  have hs1 : 65535 - fd (tot false (l.take sz)) ≤ 65535 := Nat.sub_le _ _
  generalize 65535 - fd (tot false (l.take sz)) = s at *
  have hck2 : ((s : Int) != 0) = false := by rw [bne_eq_false_iff_eq]; omega
  have hopt : Rb w (cutA (some ⟨b, off, none⟩) c 20 1) (sz - 20) (c - 20) ((l.drop 20).take (sz - 20)) := (h.cut (k := 20) (by omega)).take (by omega)
  have hload : Rb w (cutA (some ⟨b, off, none⟩) c sz 1) (ln - sz) (c - sz) ((l.drop sz).take (ln - sz)) := (h.cut (k := sz) (by omega)).take (by omega)
  have j1 : (20 : Int) ≤ (sz : Int) := by omega
  have j2 : (sz : Int) ≤ (ln : Int) := by omega
  have j3 : (ln : Int) ≤ (c : Int) := by omega
  rw [hs4]
  generalize (l.drop sz).take (ln - sz) = load at *
  clear hm hsz hb1 hs4 hck
  have hZ : Bk (w.alloc (.cells #[.int .u8 0, .int .i64 0, .int .u16 0, .bool false, .bool false, .int .i64 0, .int .u8 0, .int .u8 0, .int .u16 0, .bool false, .int .u64 0, .int .u64 0, .bool false, .int .u64 0, .int .u64 0, .slice none 0 0] 184)) w.heap.size 184 (h4C 0 0 0 false false 0 0 0 0 false 0 0 false 0 0 none 0 0) := Bk.new w 184 #[.int .u8 0, .int .i64 0, .int .u16 0, .bool false, .bool false, .int .i64 0, .int .u8 0, .int .u8 0, .int .u16 0, .bool false, .int .u64 0, .int .u64 0, .bool false, .int .u64 0, .int .u64 0, .slice none 0 0]
  have be : Below w.heap.size w (w.alloc (.cells #[.int .u8 0, .int .i64 0, .int .u16 0, .bool false, .bool false, .int .i64 0, .int .u8 0, .int .u8 0, .int .u16 0, .bool false, .int .u64 0, .int .u64 0, .bool false, .int .u64 0, .int .u64 0, .slice none 0 0] 184)) := Below.allocS (Below.refl _ _) _
  go_enter Try.func78, Try.ntmps78
  go_wp2_with fail
  refine (refGetV _ n c l _ _ 6 2 pl _ (h.alloc _) rfl rfl x4.out (by omega) (by omega) (by omega)).mono ?_
  rintro e w1 ⟨rfl, rfl⟩
  go_upto_region 7 with (fail)
  go_wp2
  refine wp_relE 31 103 [0, 3, 5, 6, 8, 9, 10, 11, 12, 13, 14, 15, 16, 17, 18, 19, 20, 23, 26, 28] rfl (by kernel_rfl) (by kernel_rfl) (fun i => match i with | 0 => MP.eq (.slice (some ⟨b, off, none⟩) n c) | 1 => MP.eq (.pointer (some ⟨b, off + 1, none⟩)) | 2 => MP.eq (.int .u8 (ts : Int)) | 3 => MP.eq (.slice (some ⟨b, off, none⟩) n c) | 4 => MP.eq (.int .u64 (ln : Int)) | 5 => MP.eq (.int .i64 (ln : Int)) | 6 => MP.eq (.slice (some ⟨b, off, none⟩) n c) | 7 => MP.eq (.int .u64 (id : Int)) | 8 => MP.eq (.int .u16 (id : Int)) | 9 => MP.eq (.int .u64 (pl : Int)) | 10 => MP.eq (.int .u64 (za : Int)) | 11 => MP.eq (.int .u64 (zb : Int)) | 12 => MP.eq (.bool st) | 13 => MP.eq (.int .u64 (pl : Int)) | 14 => MP.eq (.int .u64 (zc : Int)) | 15 => MP.eq (.int .u64 (zd : Int)) | 16 => MP.eq (.bool mo) | 17 => MP.eq (.int .u64 (pl : Int)) | 18 => MP.eq (.int .u64 (fo : Int)) | 19 => MP.eq (.int .i64 (fo : Int)) | 20 => MP.eq (.slice (some ⟨b, off, none⟩) n c) | 21 => MP.eq (.pointer (some ⟨b, off + 8, none⟩)) | 22 => MP.eq (.int .u8 (tl : Int)) | 23 => MP.eq (.slice (some ⟨b, off, none⟩) n c) | 24 => MP.eq (.pointer (some ⟨b, off + 9, none⟩)) | 25 => MP.eq (.int .u8 (pr : Int)) | 26 => MP.eq (.slice (some ⟨b, off, none⟩) n c) | 27 => MP.eq (.int .u64 (sm : Int)) | 28 => MP.eq (.int .u16 (sm : Int)) | 29 => MP.eq (.agg #[.int .u8 (ts : Int), .int .i64 (ln : Int), .int .u16 (id : Int), .bool st, .bool mo, .int .i64 (fo : Int), .int .u8 (tl : Int), .int .u8 (pr : Int), .int .u16 (sm : Int), .bool false, .int .u64 0, .int .u64 0, .bool false, .int .u64 0, .int .u64 0, .slice none 0 0]) | 30 => MP.blk (w.heap.size + 1) 184 (h4C 0 0 0 false false 0 0 0 0 false 0 0 false 0 0 none 0 0) | _ => MP.any) ?_ ?_
  · intro i hi o ho FA x hO hD
    match i, hi, ho, hO, hD with
    | 0, _, ho, hO, hD => 
      obtain rfl := Option.some.inj ho.symm
      clear ho
      have ev0 : FA.eval (.tmp 0) = .slice (some ⟨b, off, none⟩) n c := hO 0 (by kernel_rfl)
      have e0 : FA.tmps[0]?.getD undef = .slice (some ⟨b, off, none⟩) n c := by simpa [Act.eval] using ev0
      replace ev0 := Lib.hid ev0
      clear hO hD
      rw [if_pos (by decide)]
      refine ⟨.slice (some ⟨b, off, none⟩) n c, .inl ⟨by simp [Region.wanted], fun w => ?_⟩, rfl⟩
      go_simp
    | 1, _, ho, hO, hD => 
      obtain rfl := Option.some.inj ho.symm
      clear ho
      have ev30 : FA.eval (.tmp 30) = .slice (some ⟨b, off, none⟩) n c := hD 0 30 (by kernel_rfl)
      have e30 : FA.tmps[30]?.getD undef = .slice (some ⟨b, off, none⟩) n c := by simpa [Act.eval] using ev30
      replace ev30 := Lib.hid ev30
      clear hO hD
      rw [if_neg (by decide)]
      intro K hK
      go_simp
      exact hK.out _ _ (Ex.refl _) rfl
    | 2, _, ho, hO, hD => 
      obtain rfl := Option.some.inj ho.symm
      clear ho
      have ev31 : FA.eval (.tmp 31) = .pointer (some ⟨b, off + 1, none⟩) := hD 1 31 (by kernel_rfl)
      have e31 : FA.tmps[31]?.getD undef = .pointer (some ⟨b, off + 1, none⟩) := by simpa [Act.eval] using ev31
      replace ev31 := Lib.hid ev31
      clear hO hD
      rw [if_neg (by decide)]
      intro K hK
      go_simp
      exact hK.out _ _ (Ex.refl _) rfl
    | 3, _, ho, hO, hD => 
      obtain rfl := Option.some.inj ho.symm
      clear ho
      have ev0 : FA.eval (.tmp 0) = .slice (some ⟨b, off, none⟩) n c := hO 0 (by kernel_rfl)
      have e0 : FA.tmps[0]?.getD undef = .slice (some ⟨b, off, none⟩) n c := by simpa [Act.eval] using ev0
      replace ev0 := Lib.hid ev0
      clear hO hD
      rw [if_pos (by decide)]
      refine ⟨.slice (some ⟨b, off, none⟩) n c, .inl ⟨by simp [Region.wanted], fun w => ?_⟩, rfl⟩
      go_simp
    | 4, _, ho, hO, hD => 
      obtain rfl := Option.some.inj ho.symm
      clear ho
      have ev33 : FA.eval (.tmp 33) = .slice (some ⟨b, off, none⟩) n c := hD 3 33 (by kernel_rfl)
      have e33 : FA.tmps[33]?.getD undef = .slice (some ⟨b, off, none⟩) n c := by simpa [Act.eval] using ev33
      replace ev33 := Lib.hid ev33
      clear hO hD
      rw [if_neg (by decide)]
      intro K hK
      go_simp
      refine (refGetV _ n c l _ _ 2 2 ln _ ((h.alloc _).plus_ _ _) rfl rfl x2.out (by omega) (by omega) (by omega)).mono ?_
      rintro e w1 ⟨rfl, rfl⟩
      exact hK.out _ _ (Ex.refl _) rfl
    | 5, _, ho, hO, hD => 
      obtain rfl := Option.some.inj ho.symm
      clear ho
      have ev34 : FA.eval (.tmp 34) = .int .u64 (ln : Int) := hD 4 34 (by kernel_rfl)
      have e34 : FA.tmps[34]?.getD undef = .int .u64 (ln : Int) := by simpa [Act.eval] using ev34
      replace ev34 := Lib.hid ev34
      clear hO hD
      rw [if_pos (by decide)]
      refine ⟨.int .i64 (ln : Int), .inl ⟨by simp [Region.wanted], fun w => ?_⟩, rfl⟩
      go_simp
    | 6, _, ho, hO, hD => 
      obtain rfl := Option.some.inj ho.symm
      clear ho
      have ev0 : FA.eval (.tmp 0) = .slice (some ⟨b, off, none⟩) n c := hO 0 (by kernel_rfl)
      have e0 : FA.tmps[0]?.getD undef = .slice (some ⟨b, off, none⟩) n c := by simpa [Act.eval] using ev0
      replace ev0 := Lib.hid ev0
      clear hO hD
      rw [if_pos (by decide)]
      refine ⟨.slice (some ⟨b, off, none⟩) n c, .inl ⟨by simp [Region.wanted], fun w => ?_⟩, rfl⟩
      go_simp
    | 7, _, ho, hO, hD => 
      obtain rfl := Option.some.inj ho.symm
      clear ho
      have ev36 : FA.eval (.tmp 36) = .slice (some ⟨b, off, none⟩) n c := hD 6 36 (by kernel_rfl)
      have e36 : FA.tmps[36]?.getD undef = .slice (some ⟨b, off, none⟩) n c := by simpa [Act.eval] using ev36
      replace ev36 := Lib.hid ev36
      clear hO hD
      rw [if_neg (by decide)]
      intro K hK
      go_simp
      refine (refGetV _ n c l _ _ 4 2 id _ ((h.alloc _).plus_ _ _) rfl rfl x3.out (by omega) (by omega) (by omega)).mono ?_
      rintro e w1 ⟨rfl, rfl⟩
      exact hK.out _ _ (Ex.refl _) rfl
    | 8, _, ho, hO, hD => 
      obtain rfl := Option.some.inj ho.symm
      clear ho
      have ev37 : FA.eval (.tmp 37) = .int .u64 (id : Int) := hD 7 37 (by kernel_rfl)
      have e37 : FA.tmps[37]?.getD undef = .int .u64 (id : Int) := by simpa [Act.eval] using ev37
      replace ev37 := Lib.hid ev37
      clear hO hD
      rw [if_pos (by decide)]
      refine ⟨.int .u16 (id : Int), .inl ⟨by simp [Region.wanted], fun w => ?_⟩, rfl⟩
      go_simp
    | 9, _, ho, hO, hD => 
      obtain rfl := Option.some.inj ho.symm
      clear ho
      have ev6 : FA.eval (.tmp 6) = .int .u64 (pl : Int) := hO 6 (by kernel_rfl)
      have e6 : FA.tmps[6]?.getD undef = .int .u64 (pl : Int) := by simpa [Act.eval] using ev6
      replace ev6 := Lib.hid ev6
      clear hO hD
      rw [if_pos (by decide)]
      refine ⟨.int .u64 (pl : Int), .inl ⟨by simp [Region.wanted], fun w => ?_⟩, rfl⟩
      go_simp
    | 10, _, ho, hO, hD => 
      obtain rfl := Option.some.inj ho.symm
      clear ho
      have ev39 : FA.eval (.tmp 39) = .int .u64 (pl : Int) := hD 9 39 (by kernel_rfl)
      have e39 : FA.tmps[39]?.getD undef = .int .u64 (pl : Int) := by simpa [Act.eval] using ev39
      replace ev39 := Lib.hid ev39
      clear hO hD
      rw [if_pos (by decide)]
      refine ⟨.int .u64 (za : Int), .inl ⟨by simp [Region.wanted], fun w => ?_⟩, rfl⟩
      go_simp
    | 11, _, ho, hO, hD => 
      obtain rfl := Option.some.inj ho.symm
      clear ho
      have ev40 : FA.eval (.tmp 40) = .int .u64 (za : Int) := hD 10 40 (by kernel_rfl)
      have e40 : FA.tmps[40]?.getD undef = .int .u64 (za : Int) := by simpa [Act.eval] using ev40
      replace ev40 := Lib.hid ev40
      clear hO hD
      rw [if_pos (by decide)]
      refine ⟨.int .u64 (zb : Int), .inl ⟨by simp [Region.wanted], fun w => ?_⟩, rfl⟩
      go_simp
    | 12, _, ho, hO, hD => 
      obtain rfl := Option.some.inj ho.symm
      clear ho
      have ev41 : FA.eval (.tmp 41) = .int .u64 (zb : Int) := hD 11 41 (by kernel_rfl)
      have e41 : FA.tmps[41]?.getD undef = .int .u64 (zb : Int) := by simpa [Act.eval] using ev41
      replace ev41 := Lib.hid ev41
      clear hO hD
      rw [if_pos (by decide)]
      refine ⟨.bool st, .inl ⟨by simp [Region.wanted], fun w => ?_⟩, rfl⟩
      go_simp
    | 13, _, ho, hO, hD => 
      obtain rfl := Option.some.inj ho.symm
      clear ho
      have ev6 : FA.eval (.tmp 6) = .int .u64 (pl : Int) := hO 6 (by kernel_rfl)
      have e6 : FA.tmps[6]?.getD undef = .int .u64 (pl : Int) := by simpa [Act.eval] using ev6
      replace ev6 := Lib.hid ev6
      clear hO hD
      rw [if_pos (by decide)]
      refine ⟨.int .u64 (pl : Int), .inl ⟨by simp [Region.wanted], fun w => ?_⟩, rfl⟩
      go_simp
    | 14, _, ho, hO, hD => 
      obtain rfl := Option.some.inj ho.symm
      clear ho
      have ev43 : FA.eval (.tmp 43) = .int .u64 (pl : Int) := hD 13 43 (by kernel_rfl)
      have e43 : FA.tmps[43]?.getD undef = .int .u64 (pl : Int) := by simpa [Act.eval] using ev43
      replace ev43 := Lib.hid ev43
      clear hO hD
      rw [if_pos (by decide)]
      refine ⟨.int .u64 (zc : Int), .inl ⟨by simp [Region.wanted], fun w => ?_⟩, rfl⟩
      go_simp
    | 15, _, ho, hO, hD => 
      obtain rfl := Option.some.inj ho.symm
      clear ho
      have ev44 : FA.eval (.tmp 44) = .int .u64 (zc : Int) := hD 14 44 (by kernel_rfl)
      have e44 : FA.tmps[44]?.getD undef = .int .u64 (zc : Int) := by simpa [Act.eval] using ev44
      replace ev44 := Lib.hid ev44
      clear hO hD
      rw [if_pos (by decide)]
      refine ⟨.int .u64 (zd : Int), .inl ⟨by simp [Region.wanted], fun w => ?_⟩, rfl⟩
      go_simp
    | 16, _, ho, hO, hD => 
      obtain rfl := Option.some.inj ho.symm
      clear ho
      have ev45 : FA.eval (.tmp 45) = .int .u64 (zd : Int) := hD 15 45 (by kernel_rfl)
      have e45 : FA.tmps[45]?.getD undef = .int .u64 (zd : Int) := by simpa [Act.eval] using ev45
      replace ev45 := Lib.hid ev45
      clear hO hD
      rw [if_pos (by decide)]
      refine ⟨.bool mo, .inl ⟨by simp [Region.wanted], fun w => ?_⟩, rfl⟩
      go_simp
    | 17, _, ho, hO, hD => 
      obtain rfl := Option.some.inj ho.symm
      clear ho
      have ev6 : FA.eval (.tmp 6) = .int .u64 (pl : Int) := hO 6 (by kernel_rfl)
      have e6 : FA.tmps[6]?.getD undef = .int .u64 (pl : Int) := by simpa [Act.eval] using ev6
      replace ev6 := Lib.hid ev6
      clear hO hD
      rw [if_pos (by decide)]
      refine ⟨.int .u64 (pl : Int), .inl ⟨by simp [Region.wanted], fun w => ?_⟩, rfl⟩
      go_simp
    | 18, _, ho, hO, hD => 
      obtain rfl := Option.some.inj ho.symm
      clear ho
      have ev47 : FA.eval (.tmp 47) = .int .u64 (pl : Int) := hD 17 47 (by kernel_rfl)
      have e47 : FA.tmps[47]?.getD undef = .int .u64 (pl : Int) := by simpa [Act.eval] using ev47
      replace ev47 := Lib.hid ev47
      clear hO hD
      rw [if_pos (by decide)]
      refine ⟨.int .u64 (fo : Int), .inl ⟨by simp [Region.wanted], fun w => ?_⟩, rfl⟩
      go_simp
    | 19, _, ho, hO, hD => 
      obtain rfl := Option.some.inj ho.symm
      clear ho
      have ev48 : FA.eval (.tmp 48) = .int .u64 (fo : Int) := hD 18 48 (by kernel_rfl)
      have e48 : FA.tmps[48]?.getD undef = .int .u64 (fo : Int) := by simpa [Act.eval] using ev48
      replace ev48 := Lib.hid ev48
      clear hO hD
      rw [if_pos (by decide)]
      refine ⟨.int .i64 (fo : Int), .inl ⟨by simp [Region.wanted], fun w => ?_⟩, rfl⟩
      go_simp
    | 20, _, ho, hO, hD => 
      obtain rfl := Option.some.inj ho.symm
      clear ho
      have ev0 : FA.eval (.tmp 0) = .slice (some ⟨b, off, none⟩) n c := hO 0 (by kernel_rfl)
      have e0 : FA.tmps[0]?.getD undef = .slice (some ⟨b, off, none⟩) n c := by simpa [Act.eval] using ev0
      replace ev0 := Lib.hid ev0
      clear hO hD
      rw [if_pos (by decide)]
      refine ⟨.slice (some ⟨b, off, none⟩) n c, .inl ⟨by simp [Region.wanted], fun w => ?_⟩, rfl⟩
      go_simp
    | 21, _, ho, hO, hD => 
      obtain rfl := Option.some.inj ho.symm
      clear ho
      have ev50 : FA.eval (.tmp 50) = .slice (some ⟨b, off, none⟩) n c := hD 20 50 (by kernel_rfl)
      have e50 : FA.tmps[50]?.getD undef = .slice (some ⟨b, off, none⟩) n c := by simpa [Act.eval] using ev50
      replace ev50 := Lib.hid ev50
      clear hO hD
      rw [if_neg (by decide)]
      intro K hK
      go_simp
      exact hK.out _ _ (Ex.refl _) rfl
    | 22, _, ho, hO, hD => 
      obtain rfl := Option.some.inj ho.symm
      clear ho
      have ev51 : FA.eval (.tmp 51) = .pointer (some ⟨b, off + 8, none⟩) := hD 21 51 (by kernel_rfl)
      have e51 : FA.tmps[51]?.getD undef = .pointer (some ⟨b, off + 8, none⟩) := by simpa [Act.eval] using ev51
      replace ev51 := Lib.hid ev51
      clear hO hD
      rw [if_neg (by decide)]
      intro K hK
      go_simp
      exact hK.out _ _ (Ex.refl _) rfl
    | 23, _, ho, hO, hD => 
      obtain rfl := Option.some.inj ho.symm
      clear ho
      have ev0 : FA.eval (.tmp 0) = .slice (some ⟨b, off, none⟩) n c := hO 0 (by kernel_rfl)
      have e0 : FA.tmps[0]?.getD undef = .slice (some ⟨b, off, none⟩) n c := by simpa [Act.eval] using ev0
      replace ev0 := Lib.hid ev0
      clear hO hD
      rw [if_pos (by decide)]
      refine ⟨.slice (some ⟨b, off, none⟩) n c, .inl ⟨by simp [Region.wanted], fun w => ?_⟩, rfl⟩
      go_simp
    | 24, _, ho, hO, hD => 
      obtain rfl := Option.some.inj ho.symm
      clear ho
      have ev53 : FA.eval (.tmp 53) = .slice (some ⟨b, off, none⟩) n c := hD 23 53 (by kernel_rfl)
      have e53 : FA.tmps[53]?.getD undef = .slice (some ⟨b, off, none⟩) n c := by simpa [Act.eval] using ev53
      replace ev53 := Lib.hid ev53
      clear hO hD
      rw [if_neg (by decide)]
      intro K hK
      go_simp
      exact hK.out _ _ (Ex.refl _) rfl
    | 25, _, ho, hO, hD => 
      obtain rfl := Option.some.inj ho.symm
      clear ho
      have ev54 : FA.eval (.tmp 54) = .pointer (some ⟨b, off + 9, none⟩) := hD 24 54 (by kernel_rfl)
      have e54 : FA.tmps[54]?.getD undef = .pointer (some ⟨b, off + 9, none⟩) := by simpa [Act.eval] using ev54
      replace ev54 := Lib.hid ev54
      clear hO hD
      rw [if_neg (by decide)]
      intro K hK
      go_simp
      exact hK.out _ _ (Ex.refl _) rfl
    | 26, _, ho, hO, hD => 
      obtain rfl := Option.some.inj ho.symm
      clear ho
      have ev0 : FA.eval (.tmp 0) = .slice (some ⟨b, off, none⟩) n c := hO 0 (by kernel_rfl)
      have e0 : FA.tmps[0]?.getD undef = .slice (some ⟨b, off, none⟩) n c := by simpa [Act.eval] using ev0
      replace ev0 := Lib.hid ev0
      clear hO hD
      rw [if_pos (by decide)]
      refine ⟨.slice (some ⟨b, off, none⟩) n c, .inl ⟨by simp [Region.wanted], fun w => ?_⟩, rfl⟩
      go_simp
    | 27, _, ho, hO, hD => 
      obtain rfl := Option.some.inj ho.symm
      clear ho
      have ev56 : FA.eval (.tmp 56) = .slice (some ⟨b, off, none⟩) n c := hD 26 56 (by kernel_rfl)
      have e56 : FA.tmps[56]?.getD undef = .slice (some ⟨b, off, none⟩) n c := by simpa [Act.eval] using ev56
      replace ev56 := Lib.hid ev56
      clear hO hD
      rw [if_neg (by decide)]
      intro K hK
      go_simp
      refine (refGetV _ n c l _ _ 10 2 sm _ ((h.alloc _).plus_ _ _) rfl rfl x7.out (by omega) (by omega) (by omega)).mono ?_
      rintro e w1 ⟨rfl, rfl⟩
      exact hK.out _ _ (Ex.refl _) rfl
    | 28, _, ho, hO, hD => 
      obtain rfl := Option.some.inj ho.symm
      clear ho
      have ev57 : FA.eval (.tmp 57) = .int .u64 (sm : Int) := hD 27 57 (by kernel_rfl)
      have e57 : FA.tmps[57]?.getD undef = .int .u64 (sm : Int) := by simpa [Act.eval] using ev57
      replace ev57 := Lib.hid ev57
      clear hO hD
      rw [if_pos (by decide)]
      refine ⟨.int .u16 (sm : Int), .inl ⟨by simp [Region.wanted], fun w => ?_⟩, rfl⟩
      go_simp
    | 29, _, ho, hO, hD => 
      obtain rfl := Option.some.inj ho.symm
      clear ho
      have ev32 : FA.eval (.tmp 32) = .int .u8 (ts : Int) := hD 2 32 (by kernel_rfl)
      have e32 : FA.tmps[32]?.getD undef = .int .u8 (ts : Int) := by simpa [Act.eval] using ev32
      replace ev32 := Lib.hid ev32
      have ev35 : FA.eval (.tmp 35) = .int .i64 (ln : Int) := hD 5 35 (by kernel_rfl)
      have e35 : FA.tmps[35]?.getD undef = .int .i64 (ln : Int) := by simpa [Act.eval] using ev35
      replace ev35 := Lib.hid ev35
      have ev38 : FA.eval (.tmp 38) = .int .u16 (id : Int) := hD 8 38 (by kernel_rfl)
      have e38 : FA.tmps[38]?.getD undef = .int .u16 (id : Int) := by simpa [Act.eval] using ev38
      replace ev38 := Lib.hid ev38
      have ev42 : FA.eval (.tmp 42) = .bool st := hD 12 42 (by kernel_rfl)
      have e42 : FA.tmps[42]?.getD undef = .bool st := by simpa [Act.eval] using ev42
      replace ev42 := Lib.hid ev42
      have ev46 : FA.eval (.tmp 46) = .bool mo := hD 16 46 (by kernel_rfl)
      have e46 : FA.tmps[46]?.getD undef = .bool mo := by simpa [Act.eval] using ev46
      replace ev46 := Lib.hid ev46
      have ev49 : FA.eval (.tmp 49) = .int .i64 (fo : Int) := hD 19 49 (by kernel_rfl)
      have e49 : FA.tmps[49]?.getD undef = .int .i64 (fo : Int) := by simpa [Act.eval] using ev49
      replace ev49 := Lib.hid ev49
      have ev52 : FA.eval (.tmp 52) = .int .u8 (tl : Int) := hD 22 52 (by kernel_rfl)
      have e52 : FA.tmps[52]?.getD undef = .int .u8 (tl : Int) := by simpa [Act.eval] using ev52
      replace ev52 := Lib.hid ev52
      have ev55 : FA.eval (.tmp 55) = .int .u8 (pr : Int) := hD 25 55 (by kernel_rfl)
      have e55 : FA.tmps[55]?.getD undef = .int .u8 (pr : Int) := by simpa [Act.eval] using ev55
      replace ev55 := Lib.hid ev55
      have ev58 : FA.eval (.tmp 58) = .int .u16 (sm : Int) := hD 28 58 (by kernel_rfl)
      have e58 : FA.tmps[58]?.getD undef = .int .u16 (sm : Int) := by simpa [Act.eval] using ev58
      replace ev58 := Lib.hid ev58
      clear hO hD
      rw [if_neg (by decide)]
      intro K hK
      go_simp
      exact hK.out _ _ (Ex.refl _) rfl
    | 30, _, ho, hO, hD => 
      obtain rfl := Option.some.inj ho.symm
      clear ho
      clear hO hD
      rw [if_neg (by decide)]
      intro K hK
      go_simp
      refine hK.out _ _ (Ex.alloc _ _) ⟨_, rfl, ?_, ?_⟩
      · simp [size_plus]
      · refine Bk.newK _ _ _ ?_ rfl
        simp [size_plus]
    | (k + 31), hi, _, _, _ => exact absurd hi (by omega)
  intro vs x hp
  have p0 : vs 0 = .slice (some ⟨b, off, none⟩) n c := hp 0 (by omega)
  have p1 : vs 1 = .pointer (some ⟨b, off + 1, none⟩) := hp 1 (by omega)
  have p2 : vs 2 = .int .u8 (ts : Int) := hp 2 (by omega)
  have p3 : vs 3 = .slice (some ⟨b, off, none⟩) n c := hp 3 (by omega)
  have p4 : vs 4 = .int .u64 (ln : Int) := hp 4 (by omega)
  have p5 : vs 5 = .int .i64 (ln : Int) := hp 5 (by omega)
  have p6 : vs 6 = .slice (some ⟨b, off, none⟩) n c := hp 6 (by omega)
  have p7 : vs 7 = .int .u64 (id : Int) := hp 7 (by omega)
  have p8 : vs 8 = .int .u16 (id : Int) := hp 8 (by omega)
  have p9 : vs 9 = .int .u64 (pl : Int) := hp 9 (by omega)
  have p10 : vs 10 = .int .u64 (za : Int) := hp 10 (by omega)
  have p11 : vs 11 = .int .u64 (zb : Int) := hp 11 (by omega)
  have p12 : vs 12 = .bool st := hp 12 (by omega)
  have p13 : vs 13 = .int .u64 (pl : Int) := hp 13 (by omega)
  have p14 : vs 14 = .int .u64 (zc : Int) := hp 14 (by omega)
  have p15 : vs 15 = .int .u64 (zd : Int) := hp 15 (by omega)
  have p16 : vs 16 = .bool mo := hp 16 (by omega)
  have p17 : vs 17 = .int .u64 (pl : Int) := hp 17 (by omega)
  have p18 : vs 18 = .int .u64 (fo : Int) := hp 18 (by omega)
  have p19 : vs 19 = .int .i64 (fo : Int) := hp 19 (by omega)
  have p20 : vs 20 = .slice (some ⟨b, off, none⟩) n c := hp 20 (by omega)
  have p21 : vs 21 = .pointer (some ⟨b, off + 8, none⟩) := hp 21 (by omega)
  have p22 : vs 22 = .int .u8 (tl : Int) := hp 22 (by omega)
  have p23 : vs 23 = .slice (some ⟨b, off, none⟩) n c := hp 23 (by omega)
  have p24 : vs 24 = .pointer (some ⟨b, off + 9, none⟩) := hp 24 (by omega)
  have p25 : vs 25 = .int .u8 (pr : Int) := hp 25 (by omega)
  have p26 : vs 26 = .slice (some ⟨b, off, none⟩) n c := hp 26 (by omega)
  have p27 : vs 27 = .int .u64 (sm : Int) := hp 27 (by omega)
  have p28 : vs 28 = .int .u16 (sm : Int) := hp 28 (by omega)
  have p29 : vs 29 = .agg #[.int .u8 (ts : Int), .int .i64 (ln : Int), .int .u16 (id : Int), .bool st, .bool mo, .int .i64 (fo : Int), .int .u8 (tl : Int), .int .u8 (pr : Int), .int .u16 (sm : Int), .bool false, .int .u64 0, .int .u64 0, .bool false, .int .u64 0, .int .u64 0, .slice none 0 0] := hp 29 (by omega)
  have p30 := hp 30 (by omega)
  clear hp
  simp only [List.take_succ_cons, List.take_zero, List.drop_succ_cons, List.drop_zero, putAll, Nat.zero_add, Nat.reduceAdd, Act.put, List.setIfInBounds_toArray, List.set_cons_zero, List.set_cons_succ, p0, p1, p2, p3, p4, p5, p6, p7, p8, p9, p10, p11, p12, p13, p14, p15, p16, p17, p18, p19, p20, p21, p22, p23, p24, p25, p26, p27, p28, p29]
  clear p0 p1 p2 p3 p4 p5 p6 p7 p8 p9 p10 p11 p12 p13 p14 p15 p16 p17 p18 p19 p20 p21 p22 p23 p24 p25 p26 p27 p28 p29
  generalize vs 30 = y30 at *
  clear vs
  obtain ⟨g, rfl, hgw, hb⟩ := p30
  go_upto_region 8 with (refine at_op (.store 184 (.tmp 7) (.tmp 59)) rfl ?_; refine wpList_stA (t := 184) 184 (.tmp 7) (.tmp 59) rfl rfl ([.int .u8 (ts : Int), .int .i64 (ln : Int), .int .u16 (id : Int), .bool st, .bool mo, .int .i64 (fo : Int), .int .u8 (tl : Int), .int .u8 (pr : Int), .int .u16 (sm : Int), .bool false, .int .u64 0, .int .u64 0, .bool false, .int .u64 0, .int .u64 0, .slice none 0 0]) (h4C 0 0 0 false false 0 0 0 0 false 0 0 false 0 0 none 0 0) rfl (by simp [Value.oneCell']) rfl rfl hb (by kernel_rfl) ?_; intro w3 hX hg3)
  replace hZ := (hZ.later (below_plus _ x.bs x.d)).grown hg3 (by simp; omega)
  replace be := below_grown (belowP be x.bs x.d) hg3 (by omega)
  clear hg3 hb
  refine NoPanic.normal ?_
  go_wp2_with fail
  refine (refGetV _ n c l _ _ 12 4 sa _ (h.later be) rfl rfl x8.out (by omega) (by omega) (by omega)).mono ?_
  rintro e w1 ⟨rfl, rfl⟩
  have zx := hX.lt
  go_upto_region 9 with (refine at_op (.store 26 (.tmp 63) (.tmp 62)) rfl ?_; refine wpList_stM (t := 184) 26 (.tmp 63) (.tmp 62) rfl rfl (adC false 0 sa) _ (by simp [adC]) (adC_one _ _ _) rfl rfl hX (szAd _ _ _) ?_; intro w4 hX2 hg)
  simp only [splice, adC, List.take_succ_cons, List.take_zero, List.drop_succ_cons, List.drop_zero, List.length_cons, List.length_nil, Nat.zero_add, Nat.reduceAdd, List.cons_append, List.nil_append] at hX2
  replace hZ := hZ.grown hg (by simp; omega)
  replace be := below_grown be hg (by omega)
  clear hX hg zx
  have hX := hX2
  clear hX2
  go_wp2_with fail
  refine (refGetV _ n c l _ _ 16 4 da _ (h.later be) rfl rfl x9.out (by omega) (by omega) (by omega)).mono ?_
  rintro e w1 ⟨rfl, rfl⟩
  have zx := hX.lt
  go_upto_region 10 with (refine at_op (.store 26 (.tmp 67) (.tmp 66)) rfl ?_; refine wpList_stM (t := 184) 26 (.tmp 67) (.tmp 66) rfl rfl (adC false 0 da) _ (by simp [adC]) (adC_one _ _ _) rfl rfl hX (szAd _ _ _) ?_; intro w5 hX2 hg)
  simp only [splice, adC, List.take_succ_cons, List.take_zero, List.drop_succ_cons, List.drop_zero, List.length_cons, List.length_nil, Nat.zero_add, Nat.reduceAdd, List.cons_append, List.nil_append] at hX2
  replace hZ := hZ.grown hg (by simp; omega)
  replace be := below_grown be hg (by omega)
  clear hX hg zx
  have hX := hX2
  clear hX2
  have yl : w5.cell? ⟨g, 1, none⟩ = some (.int .i64 (ln : Int)) := hX.cell 1
  have zx := hX.lt
  go_wp2_with fail
  refine (HO.out _ (hts.later be)).mono ?_
  rintro e w1 ⟨rfl, rfl⟩
  have q : w5.cell? ⟨g, 15, none⟩ = some (.slice none 0 0) := hX.cell 15
  have fr := hX.frozen 15
  go_upto_region 17 with (at_builtin; refine wpList_app0 (l2 := (l.drop 20).take (sz - 20)) bt rfl (.tmp 89) (.tmp 92) rfl rfl rfl rfl (hopt.later be) (by omega) ?_; intro Ao no ko bso dso hoo)
  replace hoo := hoo.swap (W' := w5.setCell ⟨g, 15, none⟩ (.slice Ao no ko)) (d' := dso) (Nat.le_refl _) (by simp)
  have zo : ∀ a, Ao = some a → a.block ≠ w.heap.size ∧ a.block < (plus (w5.setCell ⟨g, 15, none⟩ (.slice Ao no ko)) bso dso).heap.size := fun a ha => by
    subst ha
    have h1 := hoo.blk a.block rfl
    have h2 := be.size
    have h3 := hZ.lt
    exact ⟨by omega, h1.2⟩
  replace hX := (hX.set_ 15 (.slice Ao no ko)).later (below_plus _ bso dso)
  replace hZ := (hZ.far (p := ⟨g, 15, none⟩) (by simp; omega) (.slice Ao no ko)).later (below_plus _ bso dso)
  replace be := belowP (be.setCell (p := ⟨g, 15, none⟩) (by simp; omega) (.slice Ao no ko)) bso dso
  simp only [List.set_cons_succ, List.set_cons_zero] at hX
  clear q fr yl zx
  generalize plus (w5.setCell ⟨g, 15, none⟩ (.slice Ao no ko)) bso dso = W6 at *
  have hr := hload.later be
  have zX := hX.lt
  have zZ := hZ.lt
  have hgP : g ≠ w.heap.size ∧ g < W6.heap.size := ⟨by omega, zX⟩
  have zbe := be.size
  have hrP : ∀ a, cutA (some ⟨b, off, none⟩) c sz 1 = some a → a.block < W6.heap.size → (fun b => b ≠ w.heap.size ∧ b < W6.heap.size) a.block := fun a ha hb => by
    have : a.block = b := by
      unfold cutA at ha
      split at ha
      · injection ha with ha; subst ha; rfl
      · simp [add_plain] at ha; subst ha; rfl
    exact ⟨by omega, hb⟩
  go_wp2
  refine wp_own (fun b => b ≠ w.heap.size ∧ b < W6.heap.size) 11 1 103 2 (fun i => match i with | 8 => 11 | i => i) (fun i => match i with | 7 => [1] | 8 => [11] | 9 => [7] | _ => []) (fun i => match i with | 11 => .pointer (some ⟨w.heap.size, 0, none⟩) | _ => undef) rfl (by kernel_rfl) (by kernel_rfl) (fun i => match i with | 0 => Own.eq (.agg (h4C ts (ln : Int) id st mo (fo : Int) tl pr sm false 0 sa false 0 da Ao no ko).toArray) | 1 => Own.ob W6.heap.size [] | 2 => Own.eq (.slice (some ⟨b, off, none⟩) n c) | 3 => Own.eq (.int .i64 (sz : Int)) | 4 => Own.eq (.pointer (some ⟨g, 1, none⟩)) | 5 => Own.eq (.int .i64 (ln : Int)) | 6 => Own.eq (.slice (cutA (some ⟨b, off, none⟩) c sz 1) (ln - sz) (c - sz)) | 7 => Own.ob W6.heap.size load | 8 => Own.into 184 (fun cs _ => cs = h4C ts (ln : Int) id st mo (fo : Int) tl pr sm false 0 sa false 0 da Ao no ko) (fun _ _ _ h _ => h) | 9 => Own.ob W6.heap.size load | 10 => Own.eq (.int .i64 0) | 11 => Own.blk 184 (h4C 0 0 0 false false 0 0 0 0 false 0 0 false 0 0 none 0 0) | _ => Own.any) (fun b h => h.2) ?_ ?_ ?_ ?_ ?_
  · exact fun t ht => by obtain rfl : t = 0 := (by omega); exact ⟨_, rfl, hZ⟩
  · exact fun t t' h1 h2 hne => absurd (show t = t' by omega) hne
  · exact fun t ht b hb hp => by obtain rfl : t = 0 := (by omega); exact hp.1 (own_ptr hb).symm
  · intro i hi o ho FA w' vs H K hK
    match i, hi, ho, H, hK with
    | 0, _, ho, H, hK => 
      obtain rfl := Option.some.inj ho.symm
      clear ho
      have ev7 : FA.eval (.tmp 7) = .pointer (some ⟨g, 0, none⟩) := H.out 7 (by kernel_rfl)
      have e7 : FA.tmps[7]?.getD undef = .pointer (some ⟨g, 0, none⟩) := by simpa [Act.eval] using ev7
      replace ev7 := Lib.hid ev7
      refine wanted_if rfl ?_
      refine wp_load_mid 184 (.tmp 7) rfl g 0 ev7.out (h4C ts (ln : Int) id st mo (fo : Int) tl pr sm false 0 sa false 0 da Ao no ko) _ (Bk.range (hX.kept H.kept hgP)) u1 u2 (szR4 _ _ _ _ _ _ _ _ _ _ _ _ _ _ _ _ _ _) ?_
      exact hK.out _ _ (chgX (Ex.refl _)) rfl (fun _ h => h.elim)
    | 1, _, ho, H, hK => 
      obtain rfl := Option.some.inj ho.symm
      clear ho
      go_simp
      have ho1 := Ob.lit w' (Nat.le_refl _) #[] [] 0 rfl (Nat.zero_le _) rfl
      exact hK.out _ _ (chgX (Ex.alloc _ _)) ⟨_, _, _, rfl, ho1.mono H.kept.size⟩ (fun b hb => .inr (ho1.blk b hb).1)
    | 2, _, ho, H, hK => 
      obtain rfl := Option.some.inj ho.symm
      clear ho
      have ev0 : FA.eval (.tmp 0) = .slice (some ⟨b, off, none⟩) n c := H.out 0 (by kernel_rfl)
      have e0 : FA.tmps[0]?.getD undef = .slice (some ⟨b, off, none⟩) n c := by simpa [Act.eval] using ev0
      replace ev0 := Lib.hid ev0
      go_simp
      exact hK.out _ _ (chgX (Ex.refl _)) rfl (fun _ h => h.elim)
    | 3, _, ho, H, hK => 
      obtain rfl := Option.some.inj ho.symm
      clear ho
      have ev5 : FA.eval (.tmp 5) = .int .i64 (sz : Int) := H.out 5 (by kernel_rfl)
      have e5 : FA.tmps[5]?.getD undef = .int .i64 (sz : Int) := by simpa [Act.eval] using ev5
      replace ev5 := Lib.hid ev5
      go_simp
      exact hK.out _ _ (chgX (Ex.refl _)) rfl (fun _ h => h.elim)
    | 4, _, ho, H, hK => 
      obtain rfl := Option.some.inj ho.symm
      clear ho
      have ev7 : FA.eval (.tmp 7) = .pointer (some ⟨g, 0, none⟩) := H.out 7 (by kernel_rfl)
      have e7 : FA.tmps[7]?.getD undef = .pointer (some ⟨g, 0, none⟩) := by simpa [Act.eval] using ev7
      replace ev7 := Lib.hid ev7
      go_simp
      exact hK.out _ _ (chgX (Ex.refl _)) rfl (fun _ h => h.elim)
    | 5, _, ho, H, hK => 
      obtain rfl := Option.some.inj ho.symm
      clear ho
      have ev99 : FA.eval (.tmp 99) = .pointer (some ⟨g, 1, none⟩) := (H.dep 4 99 (by kernel_rfl)).trans (H.word 4 (by omega) (by kernel_rfl))
      have e99 : FA.tmps[99]?.getD undef = .pointer (some ⟨g, 1, none⟩) := by simpa [Act.eval] using ev99
      replace ev99 := Lib.hid ev99
      have cc : w'.cell? ⟨g, 1, none⟩ = some (.int .i64 (ln : Int)) := (hX.kept H.kept hgP).cell 1
      go_simp
      exact hK.out _ _ (chgX (Ex.refl _)) rfl (fun _ h => h.elim)
    | 6, _, ho, H, hK => 
      obtain rfl := Option.some.inj ho.symm
      clear ho
      have ev97 : FA.eval (.tmp 97) = .slice (some ⟨b, off, none⟩) n c := (H.dep 2 97 (by kernel_rfl)).trans (H.word 2 (by omega) (by kernel_rfl))
      have e97 : FA.tmps[97]?.getD undef = .slice (some ⟨b, off, none⟩) n c := by simpa [Act.eval] using ev97
      replace ev97 := Lib.hid ev97
      have ev98 : FA.eval (.tmp 98) = .int .i64 (sz : Int) := (H.dep 3 98 (by kernel_rfl)).trans (H.word 3 (by omega) (by kernel_rfl))
      have e98 : FA.tmps[98]?.getD undef = .int .i64 (sz : Int) := by simpa [Act.eval] using ev98
      replace ev98 := Lib.hid ev98
      have ev100 : FA.eval (.tmp 100) = .int .i64 (ln : Int) := (H.dep 5 100 (by kernel_rfl)).trans (H.word 5 (by omega) (by kernel_rfl))
      have e100 : FA.tmps[100]?.getD undef = .int .i64 (ln : Int) := by simpa [Act.eval] using ev100
      replace ev100 := Lib.hid ev100
      go_simp
      exact hK.out _ _ (chgX (Ex.refl _)) rfl (fun _ h => h.elim)
    | 7, _, ho, H, hK => 
      obtain rfl := Option.some.inj ho.symm
      clear ho
      have ev96 := H.dep 1 96 (by kernel_rfl)
      have e96 : FA.tmps[96]?.getD undef = vs 1 := by simpa [Act.eval] using ev96
      replace ev96 := Lib.hid ev96
      have ev101 : FA.eval (.tmp 101) = .slice (cutA (some ⟨b, off, none⟩) c sz 1) (ln - sz) (c - sz) := (H.dep 6 101 (by kernel_rfl)).trans (H.word 6 (by omega) (by kernel_rfl))
      have e101 : FA.tmps[101]?.getD undef = .slice (cutA (some ⟨b, off, none⟩) c sz 1) (ln - sz) (c - sz) := by simpa [Act.eval] using ev101
      replace ev101 := Lib.hid ev101
      obtain ⟨A1, n1, c1, hv1, h1⟩ := H.word 1 (by omega) (by kernel_rfl)
      have hn1 : n1 ≤ 0 := by rw [← h1.1]; exact Nat.le_refl _
      refine wanted_if rfl ?_
      refine own_app bt (.tmp 96) (.tmp 101) rfl (ev96.out.trans hv1) h1 ev101.out (hr.kept H.kept hrP) (by omega) H.kept.size ?_
      intro A3 n3 c3 w3 ho3 hg3 hf3
      refine hK.out _ _ (Chg.grown hg3 (fun k hk => ⟨1, rfl, by show (vs 1).ownBlock = some k; rw [hv1]; exact hk⟩)) ⟨_, _, _, rfl, ho3⟩ (fun b hb => ?_)
      rcases hf3 b hb with h | h
      · exact .inl ⟨1, rfl, by show (vs 1).ownBlock = some b; rw [hv1]; exact h⟩
      · exact .inr h
    | 8, _, ho, H, hK => 
      obtain rfl := Option.some.inj ho.symm
      clear ho
      have ev2 : FA.eval (.tmp 2) = .pointer (some ⟨w.heap.size, 0, none⟩) := H.out 2 (by kernel_rfl)
      have e2 : FA.tmps[2]?.getD undef = .pointer (some ⟨w.heap.size, 0, none⟩) := by simpa [Act.eval] using ev2
      replace ev2 := Lib.hid ev2
      have ev95 : FA.eval (.tmp 95) = .agg (h4C ts (ln : Int) id st mo (fo : Int) tl pr sm false 0 sa false 0 da Ao no ko).toArray := (H.dep 0 95 (by kernel_rfl)).trans (H.word 0 (by omega) (by kernel_rfl))
      have e95 : FA.tmps[95]?.getD undef = .agg (h4C ts (ln : Int) id st mo (fo : Int) tl pr sm false 0 sa false 0 da Ao no ko).toArray := by simpa [Act.eval] using ev95
      replace ev95 := Lib.hid ev95
      obtain ⟨g0, hg0, hb0⟩ := H.word 11 (by omega) (by kernel_rfl)
      have hv0 : vs 11 = .pointer (some ⟨w.heap.size, 0, none⟩) := H.virt 11 (by omega)
      obtain rfl := own_ptr (hv0.symm.trans hg0)
      refine wanted_if rfl ?_
      refine wp_stA 184 (.tmp 2) (.tmp 95) rfl (h4C ts (ln : Int) id st mo (fo : Int) tl pr sm false 0 sa false 0 da Ao no ko) (h4C 0 0 0 false false 0 0 0 0 false 0 0 false 0 0 none 0 0) rfl (h4C_one _ _ _ _ _ _ _ _ _ _ _ _ _ _ _ _ _ _) ev2.out ev95.out hb0 (szR4 _ _ _ _ _ _ _ _ _ _ _ _ _ _ _ _ _ _) ?_
      intro w'' hn hgr
      exact hK.out undef _ (Chg.one hgr ⟨11, rfl, hv0⟩) ⟨_, _, hv0, hn, rfl⟩ (fun b hb => .inl ⟨11, rfl, hb⟩)
    | 9, _, ho, H, hK => 
      obtain rfl := Option.some.inj ho.symm
      clear ho
      have ev102 := H.dep 7 102 (by kernel_rfl)
      have e102 : FA.tmps[102]?.getD undef = vs 7 := by simpa [Act.eval] using ev102
      replace ev102 := Lib.hid ev102
      have hw := H.word 7 (by omega) (by kernel_rfl)
      go_simp
      exact hK.out _ _ (chgX (Ex.refl _)) hw (fun b hb => .inl ⟨7, rfl, hb⟩)
    | 10, _, ho, H, hK => 
      obtain rfl := Option.some.inj ho.symm
      clear ho
      go_simp
      exact hK.out _ _ (chgX (Ex.refl _)) rfl (fun _ h => h.elim)
    | (k + 11), hi, _, _, _ => exact absurd hi (by omega)
  intro vs w' hC hV hW hDis hFr
  have p0 : vs 0 = .agg (h4C ts (ln : Int) id st mo (fo : Int) tl pr sm false 0 sa false 0 da Ao no ko).toArray := hW 0 (by omega) (by kernel_rfl)
  have p2 : vs 2 = .slice (some ⟨b, off, none⟩) n c := hW 2 (by omega) (by kernel_rfl)
  have p3 : vs 3 = .int .i64 (sz : Int) := hW 3 (by omega) (by kernel_rfl)
  have p4 : vs 4 = .pointer (some ⟨g, 1, none⟩) := hW 4 (by omega) (by kernel_rfl)
  have p5 : vs 5 = .int .i64 (ln : Int) := hW 5 (by omega) (by kernel_rfl)
  have p6 : vs 6 = .slice (cutA (some ⟨b, off, none⟩) c sz 1) (ln - sz) (c - sz) := hW 6 (by omega) (by kernel_rfl)
  have p8 := hW 8 (by omega) (by kernel_rfl)
  have p9 := hW 9 (by omega) (by kernel_rfl)
  have p10 : vs 10 = .int .i64 0 := hW 10 (by omega) (by kernel_rfl)
  clear hW
  simp only [List.take_succ_cons, List.take_zero, List.drop_succ_cons, List.drop_zero, putAll, Nat.zero_add, Nat.reduceAdd, Act.put, List.setIfInBounds_toArray, List.set_cons_zero, List.set_cons_succ, p0, p2, p3, p4, p5, p6, p10]
  obtain ⟨A9, n9, c9, hv9, h9⟩ := p9
  obtain ⟨g1, cs1, hg1, hb1, rfl⟩ := p8
  have hv0 : vs 11 = .pointer (some ⟨w.heap.size, 0, none⟩) := hV 11 (by omega)
  obtain rfl := own_ptr (hv0.symm.trans hg1)
  rw [hv9]
  go_wp2
  refine bodyPost_agg3 Try.results78 rfl rfl rfl (Bk.range hb1) u1 u2 (szR4 _ _ _ _ _ _ _ _ _ _ _ _ _ _ _ _ _ _) rfl (RetP4.mk (hoo.rb.kept hC (fun a ha _ => zo a ha)) h9.rb (h9.fresh zbe) ?_)
  exact be.trans (hC.below (B := w.heap.size) zbe (fun b hb => ⟨by omega, by omega⟩))
end Go.Proofs.Ytfmkndemkpecpaa

/- Parse of any bytes, both sides (chapter 4). -/
namespace Go.Proofs.Ytfmkndemkpecpaa
open Go.RowKit
set_option linter.unusedVariables false
set_option linter.unusedSimpArgs false
attribute [local go_sem ↓] sliced_cut

attribute [local go_sem] cutA_zero

/-- a header, bytes, an error -/
def RetPE (w : World) (ts ln id : Nat) (st mo : Bool) (fo tl pr sm sa da : Nat) (o load : List UInt8) (E : Int) (e : Ending) (w' : World) : Prop := ∃ A n k A2 n2 k2 bs d, e = .returned (.tuple #[.agg (h4C ts (ln : Int) id st mo (fo : Int) tl pr sm false 0 sa false 0 da A n k).toArray, .slice A2 n2 k2, .int .i64 E]) ∧ w' = plus w bs d ∧ Rb (plus w bs d) A n k o ∧ Rb (plus w bs d) A2 n2 k2 load ∧ ∀ a, A2 = some a → w.heap.size ≤ a.block
theorem RetPE.err {w : World} {E : Int} {e : Ending} {w' : World} (h : RetV w (.tuple #[.agg (h4C 0 0 0 false false 0 0 0 0 false 0 0 false 0 0 none 0 0).toArray, .slice none 0 0, .int .i64 E]) e w') : RetPE w 0 0 0 false false 0 0 0 0 0 0 [] [] E e w' := by
  obtain ⟨bs, d, rfl, rfl⟩ := h
  exact ⟨none, 0, 0, none, 0, 0, bs, d, rfl, rfl, Rb.nil_, Rb.nil_, fun a ha => by cases ha⟩
theorem RetPE.ok {w : World} {ts ln id : Nat} {st mo : Bool} {fo tl pr sm sa da : Nat} {o load : List UInt8} {e : Ending} {w' : World} (h : RetP4 w ts ln id st mo fo tl pr sm sa da o load e w') : RetPE w ts ln id st mo fo tl pr sm sa da o load 0 e w' := h
set_option maxHeartbeats 4000000 in
set_option maxRecDepth 100000 in
/-- what is known of a header that was read -/
structure Facts4 (l : List UInt8) (n ts ln id : Nat) (st mo : Bool) (fo tl pr sm sa da : Nat) (o load : List UInt8) (E : Int) : Prop where
  b : ts < 256 ∧ id < 65536 ∧ fo < 8192 ∧ tl < 256 ∧ pr < 256 ∧ sm < 65536 ∧ sa < 4294967296 ∧ da < 4294967296 ∧ o.length ≤ 40 ∧ o.length % 4 = 0 ∧ load.length ≤ n
  c : E = 0 → 20 ≤ n ∧ num ((l.drop 0).take 1) / 16 = 4 ∧ 20 ≤ 4 * (num ((l.drop 0).take 1) % 16) ∧ 4 * (num ((l.drop 0).take 1) % 16) ≤ ln ∧ ln ≤ n ∧ pr = num ((l.drop 9).take 1) ∧ sa = num ((l.drop 12).take 4) ∧ da = num ((l.drop 16).take 4) ∧ fo = num ((l.drop 6).take 2) % 8192 ∧ mo = (num ((l.drop 6).take 2) / 8192 % 2 == 1) ∧ load = (l.drop (4 * (num ((l.drop 0).take 1) % 16))).take (ln - 4 * (num ((l.drop 0).take 1) % 16)) ∧ o.length = 4 * (num ((l.drop 0).take 1) % 16) - 20
theorem Facts4.zero (l : List UInt8) (n : Nat) (E : Int) (hE : E ≠ 0) : Facts4 l n 0 0 0 false false 0 0 0 0 0 0 [] [] E := ⟨by simp, fun h => absurd h hE⟩
set_option maxHeartbeats 4000000 in
set_option maxRecDepth 100000 in
theorem reads4F (A : Option Addr) (n c : Nat) (l : List UInt8) (w : World) (h : Rb w A n c l) (hm : n ≤ 1000000) : ∃ (ts ln id : Nat) (st mo : Bool) (fo tl pr sm sa da : Nat) (o load : List UInt8) (E : Int), Facts4 l n ts ln id st mo fo tl pr sm sa da o load E ∧
    (∀ w', Below w.heap.size w w' → Calls Try.prog 72 #[.slice A n c] w' (RetPE w' ts ln id st mo fo tl pr sm sa da o load E)) ∧ (∀ w', Below w.heap.size w w' → Calls Try.prog 78 #[.slice A n c] w' (RetPE w' ts ln id st mo fo tl pr sm sa da o load E)) := by
  have bad : ∀ E : Int, (E != 0) = true → (∀ w', Below w.heap.size w w' → Calls Try.prog 128 #[.slice A n c] w' (RetV w' (.tuple #[.agg (h4C 0 0 0 false false 0 0 0 0 false 0 0 false 0 0 none 0 0).toArray, .int .i64 0, .int .i64 E]))) → (∀ w', Below w.heap.size w w' → Calls Try.prog 78 #[.slice A n c] w' (RetV w' (.tuple #[.agg (h4C 0 0 0 false false 0 0 0 0 false 0 0 false 0 0 none 0 0).toArray, .slice none 0 0, .int .i64 E]))) → ∃ (ts ln id : Nat) (st mo : Bool) (fo tl pr sm sa da : Nat) (o load : List UInt8) (E : Int), Facts4 l n ts ln id st mo fo tl pr sm sa da o load E ∧
    (∀ w', Below w.heap.size w w' → Calls Try.prog 72 #[.slice A n c] w' (RetPE w' ts ln id st mo fo tl pr sm sa da o load E)) ∧ (∀ w', Below w.heap.size w w' → Calls Try.prog 78 #[.slice A n c] w' (RetPE w' ts ln id st mo fo tl pr sm sa da o load E)) := fun E hE h1 h2 =>
    ⟨0, 0, 0, false, false, 0, 0, 0, 0, 0, 0, [], [], E, Facts4.zero l n E (by rw [bne_iff_ne] at hE; exact hE), fun w' hb => (parse4_err A n c E w' hE (fun w2 hb2 => h1 w2 (hb.trans (hb2.mono hb.size)))).mono fun _ _ => RetPE.err, fun w' hb => (h2 w' hb).mono fun _ _ => RetPE.err⟩
  by_cases g0 : n < 20
  · exact bad 20 rfl (fun w' hb => hdr4_short A n c l w' (h.later hb) hm g0) (fun w' hb => refP4_short A n c l w' (h.later hb) hm g0)
  have hn : 20 ≤ n := by omega
  obtain ⟨f, x0⟩ : ∃ f, num ((l.drop 0).take 1) = f := ⟨_, rfl⟩
  obtain ⟨ts, x1⟩ : ∃ f, num ((l.drop 1).take 1) = f := ⟨_, rfl⟩
  obtain ⟨ln, x2⟩ : ∃ f, num ((l.drop 2).take 2) = f := ⟨_, rfl⟩
  obtain ⟨id, x3⟩ : ∃ f, num ((l.drop 4).take 2) = f := ⟨_, rfl⟩
  obtain ⟨pl, x4⟩ : ∃ f, num ((l.drop 6).take 2) = f := ⟨_, rfl⟩
  obtain ⟨tl, x5⟩ : ∃ f, num ((l.drop 8).take 1) = f := ⟨_, rfl⟩
  obtain ⟨pr, x6⟩ : ∃ f, num ((l.drop 9).take 1) = f := ⟨_, rfl⟩
  obtain ⟨sm, x7⟩ : ∃ f, num ((l.drop 10).take 2) = f := ⟨_, rfl⟩
  obtain ⟨sa, x8⟩ : ∃ f, num ((l.drop 12).take 4) = f := ⟨_, rfl⟩
  obtain ⟨da, x9⟩ : ∃ f, num ((l.drop 16).take 4) = f := ⟨_, rfl⟩
  by_cases g1 : f / 16 = 4
  case neg => exact bad 21 rfl (fun w' hb => hdr4_f1 A n c l w' (h.later hb) hm f ts ln id pl x0 x1 x2 x3 x4 hn g1) (fun w' hb => refP4_f1 A n c l w' (h.later hb) hm f ts ln id pl tl pr sm sa da x0 x1 x2 x3 x4 x5 x6 x7 x8 x9 hn g1)
  by_cases g2 : 4 * (f % 16) < 20
  · exact bad 21 rfl (fun w' hb => hdr4_f2 A n c l w' (h.later hb) hm f ts ln id pl x0 x1 x2 x3 x4 hn g1 g2) (fun w' hb => refP4_f2 A n c l w' (h.later hb) hm f ts ln id pl tl pr sm sa da x0 x1 x2 x3 x4 x5 x6 x7 x8 x9 hn g1 g2)
  have g2' : 20 ≤ 4 * (f % 16) := by omega
  obtain ⟨st, hst⟩ : ∃ b, (pl / 16384 % 2 == 1) = b := ⟨_, rfl⟩
  obtain ⟨mo, hmo⟩ : ∃ b, (pl / 8192 % 2 == 1) = b := ⟨_, rfl⟩
  by_cases g3 : 32768 ≤ pl
  · exact bad 21 rfl (fun w' hb => hdr4_f3 A n c l w' (h.later hb) hm f ts ln id pl x0 x1 x2 x3 x4 hn g1 g2' g3) (fun w' hb => refP4_f3 A n c l w' (h.later hb) hm f ts ln id pl tl pr sm sa da st mo x0 x1 x2 x3 x4 x5 x6 x7 x8 x9 hst hmo hn g1 g2' g3)
  have g3' : pl < 32768 := by omega
  by_cases g4 : ln < 4 * (f % 16)
  · exact bad 21 rfl (fun w' hb => hdr4_f4 A n c l w' (h.later hb) hm f ts ln id pl x0 x1 x2 x3 x4 hn g1 g2' g3' g4) (fun w' hb => refP4_f4 A n c l w' (h.later hb) hm f ts ln id pl tl pr sm sa da st mo x0 x1 x2 x3 x4 x5 x6 x7 x8 x9 hst hmo hn g1 g2' g3' g4)
  have g4' : 4 * (f % 16) ≤ ln := by omega
  by_cases g5 : n < ln
  · refine bad 20 rfl (fun w' hb => ?_) (fun w' hb => refP4_l A n c l w' (h.later hb) hm f ts ln id pl tl pr sm sa da st mo x0 x1 x2 x3 x4 x5 x6 x7 x8 x9 hst hmo hn g1 g2' g3' g4' g5)
    by_cases g6 : n < 4 * (f % 16)
    · exact hdr4_l1 A n c l w' (h.later hb) hm f ts ln id pl x0 x1 x2 x3 x4 hn g1 g2' g3' g4' g6
    · exact hdr4_l2 A n c l w' (h.later hb) hm f ts ln id pl x0 x1 x2 x3 x4 hn g1 g2' g3' g4' (by omega) g5
  have g5' : ln ≤ n := by omega
  by_cases g7 : 65535 - fd (tot false (l.take (4 * (f % 16)))) = 0
  case neg => exact bad 22 rfl (fun w' hb => hdr4_sum A n c l w' (h.later hb) hm f ts ln id pl x0 x1 x2 x3 x4 hn g1 g2' g3' g4' (by omega) g5' g7) (fun w' hb => refP4_sum A n c l w' (h.later hb) hm f ts ln id pl tl pr sm sa da st mo x0 x1 x2 x3 x4 x5 x6 x7 x8 x9 hst hmo hn g1 g2' g3' g4' g5' g7)
  have hl := h.1
  have kf : f < 256 := by rw [← x0]; exact num_lt' l 0 1 256 (by decide)
  refine ⟨ts, ln, id, st, mo, pl % 8192, tl, pr, sm, sa, da, (l.drop 20).take (4 * (f % 16) - 20), (l.drop (4 * (f % 16))).take (ln - 4 * (f % 16)), 0, ⟨⟨?_, ?_, ?_, ?_, ?_, ?_, ?_, ?_, ?_, ?_, ?_⟩, fun _ => ?_⟩, fun w' hb => ?_, fun w' hb => ?_⟩
  · rw [← x1]; exact num_lt' l 1 1 256 (by decide)
  · rw [← x3]; exact num_lt' l 4 2 65536 (by decide)
  · omega
  · rw [← x5]; exact num_lt' l 8 1 256 (by decide)
  · rw [← x6]; exact num_lt' l 9 1 256 (by decide)
  · rw [← x7]; exact num_lt' l 10 2 65536 (by decide)
  · rw [← x8]; exact num_lt' l 12 4 4294967296 (by decide)
  · rw [← x9]; exact num_lt' l 16 4 4294967296 (by decide)
  · rw [List.length_take, List.length_drop]; omega
  · rw [List.length_take, List.length_drop]; omega
  · rw [List.length_take, List.length_drop]; omega
  · rw [x0, x4, x6, x8, x9]
    exact ⟨hn, g1, g2', g4', g5', rfl, rfl, rfl, rfl, hmo.symm, rfl, by rw [List.length_take, List.length_drop]; omega⟩
  · exact (parse4_ok A n c l ts ln id st mo (pl % 8192) tl pr sm sa da (4 * (f % 16)) _ w' (h.later hb) hm g2' g4' g5' (fun w2 hb2 => hdr4_ok A n c l w2 ((h.later hb).later hb2) hm f ts ln id pl tl pr sm sa da st mo x0 x1 x2 x3 x4 x5 x6 x7 x8 x9 hst hmo hn g1 g2' g3' g4' (by omega) g5' g7)).mono fun _ _ => RetPE.ok
  · exact (refP4_ok A n c l w' (h.later hb) hm f ts ln id pl tl pr sm sa da st mo x0 x1 x2 x3 x4 x5 x6 x7 x8 x9 hst hmo hn g1 g2' g3' g4' g5' g7).mono fun _ _ => RetPE.ok
end Go.Proofs.Ytfmkndemkpecpaa

/- Fragment of a header of IPv4. -/
namespace Go.Proofs.Ytfmkndemkpecpaa
open Go.RowKit
set_option linter.unusedVariables false
set_option linter.unusedSimpArgs false
attribute [local go_sem ↓] sliced_cut

attribute [local go_sem] cutA_zero

set_option maxRecDepth 100000 in
theorem fragment4 (ts : Nat) (ln : Int) (id : Nat) (st mo : Bool) (fo : Int) (tl pr sm : Nat) (s6 : Bool) (sh sl : Nat) (d6 : Bool) (dh dl : Nat) (A : Option Addr) (n k : Nat) (w : World) : Calls Try.prog 156 #[.agg (h4C ts ln id st mo fo tl pr sm s6 sh sl d6 dh dl A n k).toArray] w (RetV w (.bool (mo || decide (0 < fo)))) := by
  unfold h4C
  go_enter Try.func156, Try.ntmps156
  cases mo <;> go_wp2 <;> go_ret <;> exact RetV.is_ (by first | rfl | simp) (by first | exact Below.allocS (Below.refl _ _) _ | exact Below.refl _ _)
end Go.Proofs.Ytfmkndemkpecpaa

/- ref03.Bytes, addr.Of, headers of IPv6: Right, Bytes. -/
namespace Go.Proofs.Ytfmkndemkpecpaa
open Go.RowKit
set_option linter.unusedVariables false
set_option linter.unusedSimpArgs false
attribute [local go_sem ↓] sliced_cut

attribute [local go_sem] cutA_zero

/-- the bytes of a header -/
def ip6B (cl lb ln nx ht : Nat) (sh sl dh dl : Nat) : List UInt8 := dig (1610612736 + cl * 1048576 + lb) 4 ++ dig ln 2 ++ dig nx 1 ++ dig ht 1 ++ (dig sh 8 ++ dig sl 8) ++ (dig dh 8 ++ dig dl 8)
theorem ip6B_length (cl lb ln nx ht : Nat) (sh sl dh dl : Nat) : (ip6B cl lb ln nx ht sh sl dh dl).length = 40 := by simp [ip6B, dig_length]
end Go.Proofs.Ytfmkndemkpecpaa

