/- ip4.header of well-formed bytes. -/
import Derived.Test.YtldecdeiibfekaaIp4F
import Derived.Test.YtldecdeiibfekaaSum
namespace Go.Proofs.Ytldecdeiibfekaa
open Go.RowKit
set_option linter.unusedVariables false
set_option linter.unusedSimpArgs false
attribute [local go_sem ↓] sliced_cut
attribute [local go_sem] cutA_zero

set_option maxHeartbeats 4000000 in
set_option maxRecDepth 100000 in
theorem hdr4_l1 (A : Option Addr) (n c : Nat) (l : List UInt8) (w : World) (h : Rb w A n c l) (hm9 : n ≤ 1000000) (f ts ln id pl : Nat) (x0 : num ((l.drop 0).take 1) = f) (x1 : num ((l.drop 1).take 1) = ts) (x2 : num ((l.drop 2).take 2) = ln) (x3 : num ((l.drop 4).take 2) = id) (x4 : num ((l.drop 6).take 2) = pl) (hn : 20 ≤ n) (hb : f / 16 = 4) (hs : 20 ≤ 4 * (f % 16)) (hp9 : pl < 32768) (hl9 : 4 * (f % 16) ≤ ln) (hq : n < 4 * (f % 16)) : Calls Try.prog 119 #[.slice A n c] w (RetV w (.tuple #[.agg (h4C 0 0 0 false false 0 0 0 0 false 0 0 false 0 0 none 0 0).toArray, .int .i64 0, .int .i64 20])) := by
  obtain ⟨du, u1, u2⟩ := rowH4
  have hc := h.2.1
  have hl := h.1
  have h20n : (20 : Int) ≤ (n : Int) := by omega
  have h20c : (20 : Int) ≤ (c : Int) := by omega
  have d20 : decide ((n : Int) < 20) = false := by simp only [decide_eq_false_iff_not]; omega
  have ht20 : Rb w A 20 c (l.take 20) := h.take (by omega)
  have hf8 : f < 256 := by rw [← x0]; exact num_lt' l 0 1 256 (by decide)
  have hpl : pl < 65536 := by rw [← x4]; exact num_lt' l 6 2 65536 (by decide)
  have hln : ln < 65536 := by rw [← x2]; exact num_lt' l 2 2 65536 (by decide)
  replace x0 : Hid (num (((l.take 20).drop 0).take 1) = f) := Lib.hid (by rw [num_in l 20 0 1 (by decide)]; exact x0)
  replace x1 : Hid (num (((l.take 20).drop 1).take 1) = ts) := Lib.hid (by rw [num_in l 20 1 1 (by decide)]; exact x1)
  replace x2 : Hid (num (((l.take 20).drop 2).take 2) = ln) := Lib.hid (by rw [num_in l 20 2 2 (by decide)]; exact x2)
  replace x3 : Hid (num (((l.take 20).drop 4).take 2) = id) := Lib.hid (by rw [num_in l 20 4 2 (by decide)]; exact x3)
  replace x4 : Hid (num (((l.take 20).drop 6).take 2) = pl) := Lib.hid (by rw [num_in l 20 6 2 (by decide)]; exact x4)
  have hB : (l.take 20).length = 20 := by rw [List.length_take]; omega
  have HR := Lib.hid (fun W (h : Rb W A 20 c (l.take 20)) => readK A 20 c (l.take 20) W h (by decide))
  generalize l.take 20 = B at *
  have hB1 : B.length ≤ 20 := by omega
  have hB2 : 20 ≤ B.length := by omega
  clear hB
  obtain ⟨m, hm⟩ : ∃ m : Nat, m = f % 16 := ⟨_, rfl⟩
  have e1 := u8_and15 f hf8
  rw [← hm] at e1
  obtain ⟨sz, hsz⟩ : ∃ s : Nat, s = 4 * m := ⟨_, rfl⟩
  have e2 : IntKind.i64.wrap (4 * (m : Int)) = (sz : Int) := by rw [IntWalk.i64_in _ (by omega)]; omega
  have e3 : IntKind.i64.wrap (m : Int) = (m : Int) := IntWalk.i64_in _ (by omega)
  have e4 : IntKind.i64.wrap (ln : Int) = (ln : Int) := IntWalk.i64_in _ (by omega)
  have hb1 : (f : Int) / 16 = 4 := by omega
  have hb1n : ((f : Int) / 16 != 4) = false := by rw [hb1]; rfl
  have qd8 : decide ((sz : Int) < 20) = false := by simp only [decide_eq_false_iff_not]; omega
  have qd9 : decide (sz < 20) = false := by simp only [decide_eq_false_iff_not]; omega
  have hp0 : pl / 32768 % 2 = 0 := by omega
  have hp : bits .and .u16 (pl : Int) 32768 = 0 := by rw [and15 pl hpl, hp0]; rfl
  clear hp0
  have qd10 : decide ((ln : Int) < (sz : Int)) = false := by simp only [decide_eq_false_iff_not]; omega
  have qd11 : decide (ln < sz) = false := by simp only [decide_eq_false_iff_not]; omega
  have qd12 : decide ((n : Int) < (sz : Int)) = true := by simp only [decide_eq_true_eq]; omega
  have qd13 : decide (n < sz) = true := by simp only [decide_eq_true_eq]; omega
  clear hm hsz hb1
  have b2 : Bk (w.alloc (.cells #[.int .u8 0, .int .i64 0, .int .u16 0, .bool false, .bool false, .int .i64 0, .int .u8 0, .int .u8 0, .int .u16 0, .bool false, .int .u64 0, .int .u64 0, .bool false, .int .u64 0, .int .u64 0, .slice none 0 0] 77)) w.heap.size 77 (h4C 0 0 0 false false 0 0 0 0 false 0 0 false 0 0 none 0 0) := Bk.new w 77 #[.int .u8 0, .int .i64 0, .int .u16 0, .bool false, .bool false, .int .i64 0, .int .u8 0, .int .u8 0, .int .u16 0, .bool false, .int .u64 0, .int .u64 0, .bool false, .int .u64 0, .int .u64 0, .slice none 0 0]
  have be : Below w.heap.size w (w.alloc (.cells #[.int .u8 0, .int .i64 0, .int .u16 0, .bool false, .bool false, .int .i64 0, .int .u8 0, .int .u8 0, .int .u16 0, .bool false, .int .u64 0, .int .u64 0, .bool false, .int .u64 0, .int .u64 0, .slice none 0 0] 77)) := Below.allocS (Below.refl _ _) _
  go_enter Try.func119, Try.ntmps119
  go_wp2_with fail
  refine (HR.out _ (ht20.alloc _)).mono ?_
  rintro e w1 ⟨r, bs1, d1, rfl, rfl, hr1, hR⟩
  replace b2 := b2.later (below_plus _ bs1 d1)
  replace be := belowP be bs1 d1
  have hr2 : w.heap.size < r := by simp at hr1; omega
  generalize plus (w.alloc (.cells #[.int .u8 0, .int .i64 0, .int .u16 0, .bool false, .bool false, .int .i64 0, .int .u8 0, .int .u8 0, .int .u16 0, .bool false, .int .u64 0, .int .u64 0, .bool false, .int .u64 0, .int .u64 0, .slice none 0 0] 77)) bs1 d1 = W0 at *
  clear hr1
  go_wp2_with fail
  refine (byteG W0 r B 0 f hR (by omega) (by omega) x0.out).mono ?_
  clear x0
  rintro e W1 ⟨rfl, hR1, hg⟩
  replace b2 := b2.grown hg (by simp; omega)
  replace be := below_grown be hg (by omega)
  clear hR hg
  have hR := hR1
  clear hR1
  go_wp2_with fail
  refine (byteG W1 r B 1 ts hR (by omega) (by omega) x1.out).mono ?_
  clear x1
  rintro e W2 ⟨rfl, hR1, hg⟩
  replace b2 := b2.grown hg (by simp; omega)
  replace be := below_grown be hg (by omega)
  clear hR hg
  have hR := hR1
  clear hR1
  go_wp2_with fail
  refine (wordG W2 r B 2 ln hR (by omega) (by omega) x2.out).mono ?_
  clear x2
  rintro e W3 ⟨rfl, hR1, hg⟩
  replace b2 := b2.grown hg (by simp; omega)
  replace be := below_grown be hg (by omega)
  clear hR hg
  have hR := hR1
  clear hR1
  go_wp2_with fail
  refine (wordG W3 r B 4 id hR (by omega) (by omega) x3.out).mono ?_
  clear x3
  rintro e W4 ⟨rfl, hR1, hg⟩
  replace b2 := b2.grown hg (by simp; omega)
  replace be := below_grown be hg (by omega)
  clear hR hg
  have hR := hR1
  clear hR1
  have zr := hR.lt
  go_wp2_with fail
  have b8 : Bk (W4.alloc (.cells #[.int .u8 (ts : Int), .int .i64 (ln : Int), .int .u16 (id : Int), .bool false, .bool false, .int .i64 0, .int .u8 0, .int .u8 0, .int .u16 0, .bool false, .int .u64 0, .int .u64 0, .bool false, .int .u64 0, .int .u64 0, .slice none 0 0] 77)) W4.heap.size 77 [.int .u8 (ts : Int), .int .i64 (ln : Int), .int .u16 (id : Int), .bool false, .bool false, .int .i64 0, .int .u8 0, .int .u8 0, .int .u16 0, .bool false, .int .u64 0, .int .u64 0, .bool false, .int .u64 0, .int .u64 0, .slice none 0 0] := Bk.new W4 77 #[.int .u8 (ts : Int), .int .i64 (ln : Int), .int .u16 (id : Int), .bool false, .bool false, .int .i64 0, .int .u8 0, .int .u8 0, .int .u16 0, .bool false, .int .u64 0, .int .u64 0, .bool false, .int .u64 0, .int .u64 0, .slice none 0 0]
  replace b2 := b2.alloc (.cells #[.int .u8 (ts : Int), .int .i64 (ln : Int), .int .u16 (id : Int), .bool false, .bool false, .int .i64 0, .int .u8 0, .int .u8 0, .int .u16 0, .bool false, .int .u64 0, .int .u64 0, .bool false, .int .u64 0, .int .u64 0, .slice none 0 0] 77)
  replace be := Below.allocS be (.cells #[.int .u8 (ts : Int), .int .i64 (ln : Int), .int .u16 (id : Int), .bool false, .bool false, .int .i64 0, .int .u8 0, .int .u8 0, .int .u16 0, .bool false, .int .u64 0, .int .u64 0, .bool false, .int .u64 0, .int .u64 0, .slice none 0 0] 77)
  replace hR := hR.later ((Below.refl _ _).alloc (Nat.le_refl _) (.cells #[.int .u8 (ts : Int), .int .i64 (ln : Int), .int .u16 (id : Int), .bool false, .bool false, .int .i64 0, .int .u8 0, .int .u8 0, .int .u16 0, .bool false, .int .u64 0, .int .u64 0, .bool false, .int .u64 0, .int .u64 0, .slice none 0 0] 77))
  have zb := be.size
  generalize W4.alloc (.cells #[.int .u8 (ts : Int), .int .i64 (ln : Int), .int .u16 (id : Int), .bool false, .bool false, .int .i64 0, .int .u8 0, .int .u8 0, .int .u16 0, .bool false, .int .u64 0, .int .u64 0, .bool false, .int .u64 0, .int .u64 0, .slice none 0 0] 77) = V0 at *
  have zg : w.heap.size < W4.heap.size := by omega
  generalize W4.heap.size = g8 at *
  refine (wordG V0 r B 6 pl hR (by omega) (by omega) x4.out).mono ?_
  clear x4
  rintro e W5 ⟨rfl, hR1, hg⟩
  replace b2 := b2.grown hg (by simp; omega)
  replace b8 := b8.grown hg (by simp; omega)
  replace be := below_grown be hg (by omega)
  clear hR hg
  have hR := hR1
  clear hR1
  have y1 : W5.cell? ⟨g8, 1, none⟩ = some (.int .i64 (ln : Int)) := b8.cell 1
  have z8 := b8.lt
  clear zb
  go_wp2_with (refine at_op (.store 77 (.tmp 2) (.tmp 63)) rfl ?_; refine wpList_stA (t := 77) 77 (.tmp 2) (.tmp 63) rfl rfl (h4C 0 0 0 false false 0 0 0 0 false 0 0 false 0 0 none 0 0) (h4C 0 0 0 false false 0 0 0 0 false 0 0 false 0 0 none 0 0) rfl (h4C_one _ _ _ _ _ _ _ _ _ _ _ _ _ _ _ _ _ _) rfl rfl b2 (szH4 _ _ _ _ _ _ _ _ _ _ _ _ _ _ _ _ _ _) ?_; intro W9 h9 g9)
  refine bodyPost_agg3 Try.results119 rfl rfl rfl h9.range u1 u2 (szH4 _ _ _ _ _ _ _ _ _ _ _ _ _ _ _ _ _ _) rfl (RetV.mk ?_)
  exact below_grown be g9 (by omega)
set_option maxHeartbeats 4000000 in
set_option maxRecDepth 100000 in
theorem hdr4_l2 (A : Option Addr) (n c : Nat) (l : List UInt8) (w : World) (h : Rb w A n c l) (hm9 : n ≤ 1000000) (f ts ln id pl : Nat) (x0 : num ((l.drop 0).take 1) = f) (x1 : num ((l.drop 1).take 1) = ts) (x2 : num ((l.drop 2).take 2) = ln) (x3 : num ((l.drop 4).take 2) = id) (x4 : num ((l.drop 6).take 2) = pl) (hn : 20 ≤ n) (hb : f / 16 = 4) (hs : 20 ≤ 4 * (f % 16)) (hp9 : pl < 32768) (hl9 : 4 * (f % 16) ≤ ln) (hq0 : 4 * (f % 16) ≤ n) (hq : n < ln) : Calls Try.prog 119 #[.slice A n c] w (RetV w (.tuple #[.agg (h4C 0 0 0 false false 0 0 0 0 false 0 0 false 0 0 none 0 0).toArray, .int .i64 0, .int .i64 20])) := by
  obtain ⟨du, u1, u2⟩ := rowH4
  have hc := h.2.1
  have hl := h.1
  have h20n : (20 : Int) ≤ (n : Int) := by omega
  have h20c : (20 : Int) ≤ (c : Int) := by omega
  have d20 : decide ((n : Int) < 20) = false := by simp only [decide_eq_false_iff_not]; omega
  have ht20 : Rb w A 20 c (l.take 20) := h.take (by omega)
  have hf8 : f < 256 := by rw [← x0]; exact num_lt' l 0 1 256 (by decide)
  have hpl : pl < 65536 := by rw [← x4]; exact num_lt' l 6 2 65536 (by decide)
  have hln : ln < 65536 := by rw [← x2]; exact num_lt' l 2 2 65536 (by decide)
  replace x0 : Hid (num (((l.take 20).drop 0).take 1) = f) := Lib.hid (by rw [num_in l 20 0 1 (by decide)]; exact x0)
  replace x1 : Hid (num (((l.take 20).drop 1).take 1) = ts) := Lib.hid (by rw [num_in l 20 1 1 (by decide)]; exact x1)
  replace x2 : Hid (num (((l.take 20).drop 2).take 2) = ln) := Lib.hid (by rw [num_in l 20 2 2 (by decide)]; exact x2)
  replace x3 : Hid (num (((l.take 20).drop 4).take 2) = id) := Lib.hid (by rw [num_in l 20 4 2 (by decide)]; exact x3)
  replace x4 : Hid (num (((l.take 20).drop 6).take 2) = pl) := Lib.hid (by rw [num_in l 20 6 2 (by decide)]; exact x4)
  have hB : (l.take 20).length = 20 := by rw [List.length_take]; omega
  have HR := Lib.hid (fun W (h : Rb W A 20 c (l.take 20)) => readK A 20 c (l.take 20) W h (by decide))
  generalize l.take 20 = B at *
  have hB1 : B.length ≤ 20 := by omega
  have hB2 : 20 ≤ B.length := by omega
  clear hB
  obtain ⟨m, hm⟩ : ∃ m : Nat, m = f % 16 := ⟨_, rfl⟩
  have e1 := u8_and15 f hf8
  rw [← hm] at e1
  obtain ⟨sz, hsz⟩ : ∃ s : Nat, s = 4 * m := ⟨_, rfl⟩
  have e2 : IntKind.i64.wrap (4 * (m : Int)) = (sz : Int) := by rw [IntWalk.i64_in _ (by omega)]; omega
  have e3 : IntKind.i64.wrap (m : Int) = (m : Int) := IntWalk.i64_in _ (by omega)
  have e4 : IntKind.i64.wrap (ln : Int) = (ln : Int) := IntWalk.i64_in _ (by omega)
  have hb1 : (f : Int) / 16 = 4 := by omega
  have hb1n : ((f : Int) / 16 != 4) = false := by rw [hb1]; rfl
  have qd8 : decide ((sz : Int) < 20) = false := by simp only [decide_eq_false_iff_not]; omega
  have qd9 : decide (sz < 20) = false := by simp only [decide_eq_false_iff_not]; omega
  have hp0 : pl / 32768 % 2 = 0 := by omega
  have hp : bits .and .u16 (pl : Int) 32768 = 0 := by rw [and15 pl hpl, hp0]; rfl
  clear hp0
  have qd10 : decide ((ln : Int) < (sz : Int)) = false := by simp only [decide_eq_false_iff_not]; omega
  have qd11 : decide (ln < sz) = false := by simp only [decide_eq_false_iff_not]; omega
  have qd14 : decide ((n : Int) < (sz : Int)) = false := by simp only [decide_eq_false_iff_not]; omega
  have qd15 : decide (n < sz) = false := by simp only [decide_eq_false_iff_not]; omega
  have qd16 : decide ((n : Int) < (ln : Int)) = true := by simp only [decide_eq_true_eq]; omega
  have qd17 : decide (n < ln) = true := by simp only [decide_eq_true_eq]; omega
  clear hm hsz hb1
  have b2 : Bk (w.alloc (.cells #[.int .u8 0, .int .i64 0, .int .u16 0, .bool false, .bool false, .int .i64 0, .int .u8 0, .int .u8 0, .int .u16 0, .bool false, .int .u64 0, .int .u64 0, .bool false, .int .u64 0, .int .u64 0, .slice none 0 0] 77)) w.heap.size 77 (h4C 0 0 0 false false 0 0 0 0 false 0 0 false 0 0 none 0 0) := Bk.new w 77 #[.int .u8 0, .int .i64 0, .int .u16 0, .bool false, .bool false, .int .i64 0, .int .u8 0, .int .u8 0, .int .u16 0, .bool false, .int .u64 0, .int .u64 0, .bool false, .int .u64 0, .int .u64 0, .slice none 0 0]
  have be : Below w.heap.size w (w.alloc (.cells #[.int .u8 0, .int .i64 0, .int .u16 0, .bool false, .bool false, .int .i64 0, .int .u8 0, .int .u8 0, .int .u16 0, .bool false, .int .u64 0, .int .u64 0, .bool false, .int .u64 0, .int .u64 0, .slice none 0 0] 77)) := Below.allocS (Below.refl _ _) _
  go_enter Try.func119, Try.ntmps119
  go_wp2_with fail
  refine (HR.out _ (ht20.alloc _)).mono ?_
  rintro e w1 ⟨r, bs1, d1, rfl, rfl, hr1, hR⟩
  replace b2 := b2.later (below_plus _ bs1 d1)
  replace be := belowP be bs1 d1
  have hr2 : w.heap.size < r := by simp at hr1; omega
  generalize plus (w.alloc (.cells #[.int .u8 0, .int .i64 0, .int .u16 0, .bool false, .bool false, .int .i64 0, .int .u8 0, .int .u8 0, .int .u16 0, .bool false, .int .u64 0, .int .u64 0, .bool false, .int .u64 0, .int .u64 0, .slice none 0 0] 77)) bs1 d1 = W0 at *
  clear hr1
  go_wp2_with fail
  refine (byteG W0 r B 0 f hR (by omega) (by omega) x0.out).mono ?_
  clear x0
  rintro e W1 ⟨rfl, hR1, hg⟩
  replace b2 := b2.grown hg (by simp; omega)
  replace be := below_grown be hg (by omega)
  clear hR hg
  have hR := hR1
  clear hR1
  go_wp2_with fail
  refine (byteG W1 r B 1 ts hR (by omega) (by omega) x1.out).mono ?_
  clear x1
  rintro e W2 ⟨rfl, hR1, hg⟩
  replace b2 := b2.grown hg (by simp; omega)
  replace be := below_grown be hg (by omega)
  clear hR hg
  have hR := hR1
  clear hR1
  go_wp2_with fail
  refine (wordG W2 r B 2 ln hR (by omega) (by omega) x2.out).mono ?_
  clear x2
  rintro e W3 ⟨rfl, hR1, hg⟩
  replace b2 := b2.grown hg (by simp; omega)
  replace be := below_grown be hg (by omega)
  clear hR hg
  have hR := hR1
  clear hR1
  go_wp2_with fail
  refine (wordG W3 r B 4 id hR (by omega) (by omega) x3.out).mono ?_
  clear x3
  rintro e W4 ⟨rfl, hR1, hg⟩
  replace b2 := b2.grown hg (by simp; omega)
  replace be := below_grown be hg (by omega)
  clear hR hg
  have hR := hR1
  clear hR1
  have zr := hR.lt
  go_wp2_with fail
  have b8 : Bk (W4.alloc (.cells #[.int .u8 (ts : Int), .int .i64 (ln : Int), .int .u16 (id : Int), .bool false, .bool false, .int .i64 0, .int .u8 0, .int .u8 0, .int .u16 0, .bool false, .int .u64 0, .int .u64 0, .bool false, .int .u64 0, .int .u64 0, .slice none 0 0] 77)) W4.heap.size 77 [.int .u8 (ts : Int), .int .i64 (ln : Int), .int .u16 (id : Int), .bool false, .bool false, .int .i64 0, .int .u8 0, .int .u8 0, .int .u16 0, .bool false, .int .u64 0, .int .u64 0, .bool false, .int .u64 0, .int .u64 0, .slice none 0 0] := Bk.new W4 77 #[.int .u8 (ts : Int), .int .i64 (ln : Int), .int .u16 (id : Int), .bool false, .bool false, .int .i64 0, .int .u8 0, .int .u8 0, .int .u16 0, .bool false, .int .u64 0, .int .u64 0, .bool false, .int .u64 0, .int .u64 0, .slice none 0 0]
  replace b2 := b2.alloc (.cells #[.int .u8 (ts : Int), .int .i64 (ln : Int), .int .u16 (id : Int), .bool false, .bool false, .int .i64 0, .int .u8 0, .int .u8 0, .int .u16 0, .bool false, .int .u64 0, .int .u64 0, .bool false, .int .u64 0, .int .u64 0, .slice none 0 0] 77)
  replace be := Below.allocS be (.cells #[.int .u8 (ts : Int), .int .i64 (ln : Int), .int .u16 (id : Int), .bool false, .bool false, .int .i64 0, .int .u8 0, .int .u8 0, .int .u16 0, .bool false, .int .u64 0, .int .u64 0, .bool false, .int .u64 0, .int .u64 0, .slice none 0 0] 77)
  replace hR := hR.later ((Below.refl _ _).alloc (Nat.le_refl _) (.cells #[.int .u8 (ts : Int), .int .i64 (ln : Int), .int .u16 (id : Int), .bool false, .bool false, .int .i64 0, .int .u8 0, .int .u8 0, .int .u16 0, .bool false, .int .u64 0, .int .u64 0, .bool false, .int .u64 0, .int .u64 0, .slice none 0 0] 77))
  have zb := be.size
  generalize W4.alloc (.cells #[.int .u8 (ts : Int), .int .i64 (ln : Int), .int .u16 (id : Int), .bool false, .bool false, .int .i64 0, .int .u8 0, .int .u8 0, .int .u16 0, .bool false, .int .u64 0, .int .u64 0, .bool false, .int .u64 0, .int .u64 0, .slice none 0 0] 77) = V0 at *
  have zg : w.heap.size < W4.heap.size := by omega
  generalize W4.heap.size = g8 at *
  refine (wordG V0 r B 6 pl hR (by omega) (by omega) x4.out).mono ?_
  clear x4
  rintro e W5 ⟨rfl, hR1, hg⟩
  replace b2 := b2.grown hg (by simp; omega)
  replace b8 := b8.grown hg (by simp; omega)
  replace be := below_grown be hg (by omega)
  clear hR hg
  have hR := hR1
  clear hR1
  have y1 : W5.cell? ⟨g8, 1, none⟩ = some (.int .i64 (ln : Int)) := b8.cell 1
  have z8 := b8.lt
  clear zb
  go_wp2_with (refine at_op (.store 77 (.tmp 2) (.tmp 63)) rfl ?_; refine wpList_stA (t := 77) 77 (.tmp 2) (.tmp 63) rfl rfl (h4C 0 0 0 false false 0 0 0 0 false 0 0 false 0 0 none 0 0) (h4C 0 0 0 false false 0 0 0 0 false 0 0 false 0 0 none 0 0) rfl (h4C_one _ _ _ _ _ _ _ _ _ _ _ _ _ _ _ _ _ _) rfl rfl b2 (szH4 _ _ _ _ _ _ _ _ _ _ _ _ _ _ _ _ _ _) ?_; intro W9 h9 g9)
  refine bodyPost_agg3 Try.results119 rfl rfl rfl h9.range u1 u2 (szH4 _ _ _ _ _ _ _ _ _ _ _ _ _ _ _ _ _ _) rfl (RetV.mk ?_)
  exact below_grown be g9 (by omega)
set_option maxHeartbeats 4000000 in
set_option maxRecDepth 100000 in
theorem hdr4_sum (A : Option Addr) (n c : Nat) (l : List UInt8) (w : World) (h : Rb w A n c l) (hm9 : n ≤ 1000000) (f ts ln id pl : Nat) (x0 : num ((l.drop 0).take 1) = f) (x1 : num ((l.drop 1).take 1) = ts) (x2 : num ((l.drop 2).take 2) = ln) (x3 : num ((l.drop 4).take 2) = id) (x4 : num ((l.drop 6).take 2) = pl) (hn : 20 ≤ n) (hb : f / 16 = 4) (hs : 20 ≤ 4 * (f % 16)) (hp9 : pl < 32768) (hl9 : 4 * (f % 16) ≤ ln) (hq0 : 4 * (f % 16) ≤ n) (hq1 : ln ≤ n) (hck : 65535 - fd (tot false (l.take (4 * (f % 16)))) ≠ 0) : Calls Try.prog 119 #[.slice A n c] w (RetV w (.tuple #[.agg (h4C 0 0 0 false false 0 0 0 0 false 0 0 false 0 0 none 0 0).toArray, .int .i64 0, .int .i64 22])) := by
  obtain ⟨du, u1, u2⟩ := rowH4
  have hc := h.2.1
  have hl := h.1
  have h20n : (20 : Int) ≤ (n : Int) := by omega
  have h20c : (20 : Int) ≤ (c : Int) := by omega
  have d20 : decide ((n : Int) < 20) = false := by simp only [decide_eq_false_iff_not]; omega
  have ht20 : Rb w A 20 c (l.take 20) := h.take (by omega)
  have hf8 : f < 256 := by rw [← x0]; exact num_lt' l 0 1 256 (by decide)
  have hpl : pl < 65536 := by rw [← x4]; exact num_lt' l 6 2 65536 (by decide)
  have hln : ln < 65536 := by rw [← x2]; exact num_lt' l 2 2 65536 (by decide)
  replace x0 : Hid (num (((l.take 20).drop 0).take 1) = f) := Lib.hid (by rw [num_in l 20 0 1 (by decide)]; exact x0)
  replace x1 : Hid (num (((l.take 20).drop 1).take 1) = ts) := Lib.hid (by rw [num_in l 20 1 1 (by decide)]; exact x1)
  replace x2 : Hid (num (((l.take 20).drop 2).take 2) = ln) := Lib.hid (by rw [num_in l 20 2 2 (by decide)]; exact x2)
  replace x3 : Hid (num (((l.take 20).drop 4).take 2) = id) := Lib.hid (by rw [num_in l 20 4 2 (by decide)]; exact x3)
  replace x4 : Hid (num (((l.take 20).drop 6).take 2) = pl) := Lib.hid (by rw [num_in l 20 6 2 (by decide)]; exact x4)
  have hB : (l.take 20).length = 20 := by rw [List.length_take]; omega
  have HR := Lib.hid (fun W (h : Rb W A 20 c (l.take 20)) => readK A 20 c (l.take 20) W h (by decide))
  generalize hBB : l.take 20 = B at *
  clear hBB
  have hB1 : B.length ≤ 20 := by omega
  have hB2 : 20 ≤ B.length := by omega
  clear hB
  obtain ⟨m, hm⟩ : ∃ m : Nat, m = f % 16 := ⟨_, rfl⟩
  have e1 := u8_and15 f hf8
  rw [← hm] at e1
  obtain ⟨sz, hsz⟩ : ∃ s : Nat, s = 4 * m := ⟨_, rfl⟩
  have e2 : IntKind.i64.wrap (4 * (m : Int)) = (sz : Int) := by rw [IntWalk.i64_in _ (by omega)]; omega
  have e3 : IntKind.i64.wrap (m : Int) = (m : Int) := IntWalk.i64_in _ (by omega)
  have e4 : IntKind.i64.wrap (ln : Int) = (ln : Int) := IntWalk.i64_in _ (by omega)
  have hb1 : (f : Int) / 16 = 4 := by omega
  have hb1n : ((f : Int) / 16 != 4) = false := by rw [hb1]; rfl
  have qd8 : decide ((sz : Int) < 20) = false := by simp only [decide_eq_false_iff_not]; omega
  have qd9 : decide (sz < 20) = false := by simp only [decide_eq_false_iff_not]; omega
  have hp0 : pl / 32768 % 2 = 0 := by omega
  have hp : bits .and .u16 (pl : Int) 32768 = 0 := by rw [and15 pl hpl, hp0]; rfl
  clear hp0
  have qd10 : decide ((ln : Int) < (sz : Int)) = false := by simp only [decide_eq_false_iff_not]; omega
  have qd11 : decide (ln < sz) = false := by simp only [decide_eq_false_iff_not]; omega
  have qd18 : decide ((n : Int) < (sz : Int)) = false := by simp only [decide_eq_false_iff_not]; omega
  have qd19 : decide (n < sz) = false := by simp only [decide_eq_false_iff_not]; omega
  have qd20 : decide ((n : Int) < (ln : Int)) = false := by simp only [decide_eq_false_iff_not]; omega
  have qd21 : decide (n < ln) = false := by simp only [decide_eq_false_iff_not]; omega
  have hszn : sz ≤ n := by omega
  have hln9 : ln ≤ n := by omega
  have hszc : ((sz : Nat) : Int) ≤ (c : Int) := by omega
  have hsz0 : (0 : Int) ≤ (sz : Int) := by omega
  have hts : Rb w A sz c (l.take sz) := h.take hszn
  have hs4 : 4 * (f % 16) = sz := by omega
  have HO := Lib.hid (fun w A1 c1 (h : RdL w A1 1 [l.take sz]) => sumRight A1 1 c1 _ w h (by omega) (by simp; omega))
  have hfl : ([l.take sz] : List (List UInt8)).flatten = l.take sz := by simp
  rw [hfl] at HO
  rw [hs4] at hck
  have hck2 : (65535 - fd (tot false (l.take sz)) == 0) = false := by rw [beq_eq_false_iff_ne]; exact hck
  rw [hck2] at HO
  clear hm hsz hb1 hs4 hck hck2 hfl
  have b2 : Bk (w.alloc (.cells #[.int .u8 0, .int .i64 0, .int .u16 0, .bool false, .bool false, .int .i64 0, .int .u8 0, .int .u8 0, .int .u16 0, .bool false, .int .u64 0, .int .u64 0, .bool false, .int .u64 0, .int .u64 0, .slice none 0 0] 77)) w.heap.size 77 (h4C 0 0 0 false false 0 0 0 0 false 0 0 false 0 0 none 0 0) := Bk.new w 77 #[.int .u8 0, .int .i64 0, .int .u16 0, .bool false, .bool false, .int .i64 0, .int .u8 0, .int .u8 0, .int .u16 0, .bool false, .int .u64 0, .int .u64 0, .bool false, .int .u64 0, .int .u64 0, .slice none 0 0]
  have be : Below w.heap.size w (w.alloc (.cells #[.int .u8 0, .int .i64 0, .int .u16 0, .bool false, .bool false, .int .i64 0, .int .u8 0, .int .u8 0, .int .u16 0, .bool false, .int .u64 0, .int .u64 0, .bool false, .int .u64 0, .int .u64 0, .slice none 0 0] 77)) := Below.allocS (Below.refl _ _) _
  go_enter Try.func119, Try.ntmps119
  go_wp2_with fail
  refine (HR.out _ (ht20.alloc _)).mono ?_
  rintro e w1 ⟨r, bs1, d1, rfl, rfl, hr1, hR⟩
  replace b2 := b2.later (below_plus _ bs1 d1)
  replace be := belowP be bs1 d1
  have hr2 : w.heap.size < r := by simp at hr1; omega
  generalize plus (w.alloc (.cells #[.int .u8 0, .int .i64 0, .int .u16 0, .bool false, .bool false, .int .i64 0, .int .u8 0, .int .u8 0, .int .u16 0, .bool false, .int .u64 0, .int .u64 0, .bool false, .int .u64 0, .int .u64 0, .slice none 0 0] 77)) bs1 d1 = W0 at *
  clear hr1
  go_wp2_with fail
  refine (byteG W0 r B 0 f hR (by omega) (by omega) x0.out).mono ?_
  clear x0
  rintro e W1 ⟨rfl, hR1, hg⟩
  replace b2 := b2.grown hg (by simp; omega)
  replace be := below_grown be hg (by omega)
  clear hR hg
  have hR := hR1
  clear hR1
  go_wp2_with fail
  refine (byteG W1 r B 1 ts hR (by omega) (by omega) x1.out).mono ?_
  clear x1
  rintro e W2 ⟨rfl, hR1, hg⟩
  replace b2 := b2.grown hg (by simp; omega)
  replace be := below_grown be hg (by omega)
  clear hR hg
  have hR := hR1
  clear hR1
  go_wp2_with fail
  refine (wordG W2 r B 2 ln hR (by omega) (by omega) x2.out).mono ?_
  clear x2
  rintro e W3 ⟨rfl, hR1, hg⟩
  replace b2 := b2.grown hg (by simp; omega)
  replace be := below_grown be hg (by omega)
  clear hR hg
  have hR := hR1
  clear hR1
  go_wp2_with fail
  refine (wordG W3 r B 4 id hR (by omega) (by omega) x3.out).mono ?_
  clear x3
  rintro e W4 ⟨rfl, hR1, hg⟩
  replace b2 := b2.grown hg (by simp; omega)
  replace be := below_grown be hg (by omega)
  clear hR hg
  have hR := hR1
  clear hR1
  have zr := hR.lt
  go_wp2_with fail
  have b8 : Bk (W4.alloc (.cells #[.int .u8 (ts : Int), .int .i64 (ln : Int), .int .u16 (id : Int), .bool false, .bool false, .int .i64 0, .int .u8 0, .int .u8 0, .int .u16 0, .bool false, .int .u64 0, .int .u64 0, .bool false, .int .u64 0, .int .u64 0, .slice none 0 0] 77)) W4.heap.size 77 [.int .u8 (ts : Int), .int .i64 (ln : Int), .int .u16 (id : Int), .bool false, .bool false, .int .i64 0, .int .u8 0, .int .u8 0, .int .u16 0, .bool false, .int .u64 0, .int .u64 0, .bool false, .int .u64 0, .int .u64 0, .slice none 0 0] := Bk.new W4 77 #[.int .u8 (ts : Int), .int .i64 (ln : Int), .int .u16 (id : Int), .bool false, .bool false, .int .i64 0, .int .u8 0, .int .u8 0, .int .u16 0, .bool false, .int .u64 0, .int .u64 0, .bool false, .int .u64 0, .int .u64 0, .slice none 0 0]
  replace b2 := b2.alloc (.cells #[.int .u8 (ts : Int), .int .i64 (ln : Int), .int .u16 (id : Int), .bool false, .bool false, .int .i64 0, .int .u8 0, .int .u8 0, .int .u16 0, .bool false, .int .u64 0, .int .u64 0, .bool false, .int .u64 0, .int .u64 0, .slice none 0 0] 77)
  replace be := Below.allocS be (.cells #[.int .u8 (ts : Int), .int .i64 (ln : Int), .int .u16 (id : Int), .bool false, .bool false, .int .i64 0, .int .u8 0, .int .u8 0, .int .u16 0, .bool false, .int .u64 0, .int .u64 0, .bool false, .int .u64 0, .int .u64 0, .slice none 0 0] 77)
  replace hR := hR.later ((Below.refl _ _).alloc (Nat.le_refl _) (.cells #[.int .u8 (ts : Int), .int .i64 (ln : Int), .int .u16 (id : Int), .bool false, .bool false, .int .i64 0, .int .u8 0, .int .u8 0, .int .u16 0, .bool false, .int .u64 0, .int .u64 0, .bool false, .int .u64 0, .int .u64 0, .slice none 0 0] 77))
  have zb := be.size
  generalize W4.alloc (.cells #[.int .u8 (ts : Int), .int .i64 (ln : Int), .int .u16 (id : Int), .bool false, .bool false, .int .i64 0, .int .u8 0, .int .u8 0, .int .u16 0, .bool false, .int .u64 0, .int .u64 0, .bool false, .int .u64 0, .int .u64 0, .slice none 0 0] 77) = V0 at *
  have zg : w.heap.size < W4.heap.size := by omega
  generalize W4.heap.size = g8 at *
  refine (wordG V0 r B 6 pl hR (by omega) (by omega) x4.out).mono ?_
  clear x4
  rintro e W5 ⟨rfl, hR1, hg⟩
  replace b2 := b2.grown hg (by simp; omega)
  replace b8 := b8.grown hg (by simp; omega)
  replace be := below_grown be hg (by omega)
  clear hR hg
  have hR := hR1
  clear hR1
  have y1 : W5.cell? ⟨g8, 1, none⟩ = some (.int .i64 (ln : Int)) := b8.cell 1
  have z8 := b8.lt
  clear zb
  go_wp2_with fail
  refine (HO.out _ _ _ (RdL.litW [.slice A sz c] [l.take sz] (by simp) (.cons ⟨_, _, _, rfl, hts.later be⟩ .nil))).mono ?_
  rintro e w1 ⟨rfl, rfl⟩
  replace b2 := b2.alloc (.cells #[.slice A sz c] 24)
  replace be := Below.allocS be (.cells #[.slice A sz c] 24)
  go_wp2_with (refine at_op (.store 77 (.tmp 2) (.tmp 70)) rfl ?_; refine wpList_stA (t := 77) 77 (.tmp 2) (.tmp 70) rfl rfl (h4C 0 0 0 false false 0 0 0 0 false 0 0 false 0 0 none 0 0) (h4C 0 0 0 false false 0 0 0 0 false 0 0 false 0 0 none 0 0) rfl (h4C_one _ _ _ _ _ _ _ _ _ _ _ _ _ _ _ _ _ _) rfl rfl b2 (szH4 _ _ _ _ _ _ _ _ _ _ _ _ _ _ _ _ _ _) ?_; intro W9 h9 g9)
  refine bodyPost_agg3 Try.results119 rfl rfl rfl h9.range u1 u2 (szH4 _ _ _ _ _ _ _ _ _ _ _ _ _ _ _ _ _ _) rfl (RetV.mk ?_)
  exact below_grown be g9 (by omega)
/-- a header with its options, and its size -/
def RetHd (w : World) (ts ln id : Nat) (st mo : Bool) (fo tl pr sm sa da sz : Nat) (o : List UInt8) (e : Ending) (w' : World) : Prop := ∃ A n k bs d, e = .returned (.tuple #[.agg (h4C ts (ln : Int) id st mo (fo : Int) tl pr sm false 0 sa false 0 da A n k).toArray, .int .i64 (sz : Int), .int .i64 0]) ∧ w' = plus w bs d ∧ Ob (plus w bs d) w.heap.size A n k o
theorem RetHd.mk {w w' : World} {ts ln id : Nat} {st mo : Bool} {fo tl pr sm sa da sz : Nat} {o : List UInt8} {A : Option Addr} {n k : Nat} (h : Ob w' w.heap.size A n k o) (hb : Below w.heap.size w w') : RetHd w ts ln id st mo fo tl pr sm sa da sz o (.returned (.tuple #[.agg (h4C ts (ln : Int) id st mo (fo : Int) tl pr sm false 0 sa false 0 da A n k).toArray, .int .i64 (sz : Int), .int .i64 0])) w' := by
  obtain ⟨bs, d, rfl⟩ := plus_of hb
  exact ⟨A, n, k, bs, d, rfl, rfl, h⟩
set_option maxHeartbeats 4000000 in
set_option maxRecDepth 100000 in
theorem hdr4_ok (A : Option Addr) (n c : Nat) (l : List UInt8) (w : World) (h : Rb w A n c l) (hm9 : n ≤ 1000000) (f ts ln id pl tl pr sm sa da : Nat) (st mo : Bool) (x0 : num ((l.drop 0).take 1) = f) (x1 : num ((l.drop 1).take 1) = ts) (x2 : num ((l.drop 2).take 2) = ln) (x3 : num ((l.drop 4).take 2) = id) (x4 : num ((l.drop 6).take 2) = pl) (x5 : num ((l.drop 8).take 1) = tl) (x6 : num ((l.drop 9).take 1) = pr) (x7 : num ((l.drop 10).take 2) = sm) (x8 : num ((l.drop 12).take 4) = sa) (x9 : num ((l.drop 16).take 4) = da) (hst : (pl / 16384 % 2 == 1) = st) (hmo : (pl / 8192 % 2 == 1) = mo) (hn : 20 ≤ n) (hb : f / 16 = 4) (hs : 20 ≤ 4 * (f % 16)) (hp9 : pl < 32768) (hl9 : 4 * (f % 16) ≤ ln) (hq0 : 4 * (f % 16) ≤ n) (hq1 : ln ≤ n) (hck : 65535 - fd (tot false (l.take (4 * (f % 16)))) = 0) : Calls Try.prog 119 #[.slice A n c] w (RetHd w ts ln id st mo (pl % 8192) tl pr sm sa da (4 * (f % 16)) ((l.drop 20).take (4 * (f % 16) - 20))) := by
  obtain ⟨du, u1, u2⟩ := rowH4
  have hc := h.2.1
  have hl := h.1
  have h20n : (20 : Int) ≤ (n : Int) := by omega
  have h20c : (20 : Int) ≤ (c : Int) := by omega
  have d20 : decide ((n : Int) < 20) = false := by simp only [decide_eq_false_iff_not]; omega
  have ht20 : Rb w A 20 c (l.take 20) := h.take (by omega)
  have hf8 : f < 256 := by rw [← x0]; exact num_lt' l 0 1 256 (by decide)
  have hpl : pl < 65536 := by rw [← x4]; exact num_lt' l 6 2 65536 (by decide)
  have hln : ln < 65536 := by rw [← x2]; exact num_lt' l 2 2 65536 (by decide)
  replace x0 : Hid (num (((l.take 20).drop 0).take 1) = f) := Lib.hid (by rw [num_in l 20 0 1 (by decide)]; exact x0)
  replace x1 : Hid (num (((l.take 20).drop 1).take 1) = ts) := Lib.hid (by rw [num_in l 20 1 1 (by decide)]; exact x1)
  replace x2 : Hid (num (((l.take 20).drop 2).take 2) = ln) := Lib.hid (by rw [num_in l 20 2 2 (by decide)]; exact x2)
  replace x3 : Hid (num (((l.take 20).drop 4).take 2) = id) := Lib.hid (by rw [num_in l 20 4 2 (by decide)]; exact x3)
  replace x4 : Hid (num (((l.take 20).drop 6).take 2) = pl) := Lib.hid (by rw [num_in l 20 6 2 (by decide)]; exact x4)
  replace x5 : Hid (num (((l.take 20).drop 8).take 1) = tl) := Lib.hid (by rw [num_in l 20 8 1 (by decide)]; exact x5)
  replace x6 : Hid (num (((l.take 20).drop 9).take 1) = pr) := Lib.hid (by rw [num_in l 20 9 1 (by decide)]; exact x6)
  replace x7 : Hid (num (((l.take 20).drop 10).take 2) = sm) := Lib.hid (by rw [num_in l 20 10 2 (by decide)]; exact x7)
  replace x8 : Hid (num (((l.take 20).drop 12).take 4) = sa) := Lib.hid (by rw [num_in l 20 12 4 (by decide)]; exact x8)
  replace x9 : Hid (num (((l.take 20).drop 16).take 4) = da) := Lib.hid (by rw [num_in l 20 16 4 (by decide)]; exact x9)
  have hB : (l.take 20).length = 20 := by rw [List.length_take]; omega
  have HR := Lib.hid (fun W (h : Rb W A 20 c (l.take 20)) => readK A 20 c (l.take 20) W h (by decide))
  generalize l.take 20 = B at *
  have hB1 : B.length ≤ 20 := by omega
  have hB2 : 20 ≤ B.length := by omega
  clear hB
  obtain ⟨m, hm⟩ : ∃ m : Nat, m = f % 16 := ⟨_, rfl⟩
  have e1 := u8_and15 f hf8
  rw [← hm] at e1
  obtain ⟨sz, hsz⟩ : ∃ s : Nat, s = 4 * m := ⟨_, rfl⟩
  have e2 : IntKind.i64.wrap (4 * (m : Int)) = (sz : Int) := by rw [IntWalk.i64_in _ (by omega)]; omega
  have e3 : IntKind.i64.wrap (m : Int) = (m : Int) := IntWalk.i64_in _ (by omega)
  have e4 : IntKind.i64.wrap (ln : Int) = (ln : Int) := IntWalk.i64_in _ (by omega)
  have hb1 : (f : Int) / 16 = 4 := by omega
  have hb1n : ((f : Int) / 16 != 4) = false := by rw [hb1]; rfl
  have qd8 : decide ((sz : Int) < 20) = false := by simp only [decide_eq_false_iff_not]; omega
  have qd9 : decide (sz < 20) = false := by simp only [decide_eq_false_iff_not]; omega
  have hp0 : pl / 32768 % 2 = 0 := by omega
  have hp : bits .and .u16 (pl : Int) 32768 = 0 := by rw [and15 pl hpl, hp0]; rfl
  clear hp0
  have qd10 : decide ((ln : Int) < (sz : Int)) = false := by simp only [decide_eq_false_iff_not]; omega
  have qd11 : decide (ln < sz) = false := by simp only [decide_eq_false_iff_not]; omega
  have qd22 : decide ((n : Int) < (sz : Int)) = false := by simp only [decide_eq_false_iff_not]; omega
  have qd23 : decide (n < sz) = false := by simp only [decide_eq_false_iff_not]; omega
  have qd24 : decide ((n : Int) < (ln : Int)) = false := by simp only [decide_eq_false_iff_not]; omega
  have qd25 : decide (n < ln) = false := by simp only [decide_eq_false_iff_not]; omega
  have hszn : sz ≤ n := by omega
  have hln9 : ln ≤ n := by omega
  have hszc : ((sz : Nat) : Int) ≤ (c : Int) := by omega
  have hsz0 : (0 : Int) ≤ (sz : Int) := by omega
  have hts : Rb w A sz c (l.take sz) := h.take hszn
  have hs4 : 4 * (f % 16) = sz := by omega
  have HO := Lib.hid (fun w A1 c1 (h : RdL w A1 1 [l.take sz]) => sumRight A1 1 c1 _ w h (by omega) (by simp; omega))
  have hfl : ([l.take sz] : List (List UInt8)).flatten = l.take sz := by simp
  rw [hfl] at HO
  rw [hs4] at hck
  have hck2 : (65535 - fd (tot false (l.take sz)) == 0) = true := by rw [beq_iff_eq]; exact hck
  rw [hck2] at HO
  have ho0 : Rb w (cutA A c 20 1) (sz - 20) (c - 20) ((l.drop 20).take (sz - 20)) := (h.cut (k := 20) (by omega)).take (by omega)
  have v1 : (bits .and .u16 (pl : Int) 16384 != 0) = st := by rw [← hst, and14 pl hpl]; rcases Nat.mod_two_eq_zero_or_one (pl / 16384) with h0 | h0 <;> simp [h0]
  have v2 : (bits .and .u16 (pl : Int) 8192 != 0) = mo := by rw [← hmo, and13 pl hpl]; rcases Nat.mod_two_eq_zero_or_one (pl / 8192) with h0 | h0 <;> simp [h0]
  have v3 := and8191 pl hpl
  have hfo : pl % 8192 < 65536 := by omega
  generalize pl % 8192 = fo at *
  have v4 : IntKind.i64.wrap (fo : Int) = (fo : Int) := IntWalk.i64_in _ (by omega)
  have hsa : sa < 4294967296 := by rw [← x8.out]; exact num_lt' _ 12 4 4294967296 (by decide)
  have hda : da < 4294967296 := by rw [← x9.out]; exact num_lt' _ 16 4 4294967296 (by decide)
  have v5 : IntKind.u64.wrap (sa : Int) = (sa : Int) := IntWalk.u64_in _ (by omega)
  have v6 : IntKind.u64.wrap (da : Int) = (da : Int) := IntWalk.u64_in _ (by omega)
  have j1 : (20 : Int) ≤ (sz : Int) := by omega
  have HC := Lib.hid (fun w (h : Rb w (cutA A c 20 1) (sz - 20) (c - 20) ((l.drop 20).take (sz - 20))) => clone_any _ _ _ _ w h (by omega))
  have hs9 := Lib.hid hs4
  clear hm hsz hb1 hs4 hck hck2 hfl hst hmo
  have b2 : Bk (w.alloc (.cells #[.int .u8 0, .int .i64 0, .int .u16 0, .bool false, .bool false, .int .i64 0, .int .u8 0, .int .u8 0, .int .u16 0, .bool false, .int .u64 0, .int .u64 0, .bool false, .int .u64 0, .int .u64 0, .slice none 0 0] 77)) w.heap.size 77 (h4C 0 0 0 false false 0 0 0 0 false 0 0 false 0 0 none 0 0) := Bk.new w 77 #[.int .u8 0, .int .i64 0, .int .u16 0, .bool false, .bool false, .int .i64 0, .int .u8 0, .int .u8 0, .int .u16 0, .bool false, .int .u64 0, .int .u64 0, .bool false, .int .u64 0, .int .u64 0, .slice none 0 0]
  have be : Below w.heap.size w (w.alloc (.cells #[.int .u8 0, .int .i64 0, .int .u16 0, .bool false, .bool false, .int .i64 0, .int .u8 0, .int .u8 0, .int .u16 0, .bool false, .int .u64 0, .int .u64 0, .bool false, .int .u64 0, .int .u64 0, .slice none 0 0] 77)) := Below.allocS (Below.refl _ _) _
  go_enter Try.func119, Try.ntmps119
  go_wp2_with fail
  refine (HR.out _ (ht20.alloc _)).mono ?_
  rintro e w1 ⟨r, bs1, d1, rfl, rfl, hr1, hR⟩
  replace b2 := b2.later (below_plus _ bs1 d1)
  replace be := belowP be bs1 d1
  have hr2 : w.heap.size < r := by simp at hr1; omega
  generalize plus (w.alloc (.cells #[.int .u8 0, .int .i64 0, .int .u16 0, .bool false, .bool false, .int .i64 0, .int .u8 0, .int .u8 0, .int .u16 0, .bool false, .int .u64 0, .int .u64 0, .bool false, .int .u64 0, .int .u64 0, .slice none 0 0] 77)) bs1 d1 = W0 at *
  clear hr1
  go_wp2_with fail
  refine (byteG W0 r B 0 f hR (by omega) (by omega) x0.out).mono ?_
  clear x0
  rintro e W1 ⟨rfl, hR1, hg⟩
  replace b2 := b2.grown hg (by simp; omega)
  replace be := below_grown be hg (by omega)
  clear hR hg
  have hR := hR1
  clear hR1
  go_wp2_with fail
  refine (byteG W1 r B 1 ts hR (by omega) (by omega) x1.out).mono ?_
  clear x1
  rintro e W2 ⟨rfl, hR1, hg⟩
  replace b2 := b2.grown hg (by simp; omega)
  replace be := below_grown be hg (by omega)
  clear hR hg
  have hR := hR1
  clear hR1
  go_wp2_with fail
  refine (wordG W2 r B 2 ln hR (by omega) (by omega) x2.out).mono ?_
  clear x2
  rintro e W3 ⟨rfl, hR1, hg⟩
  replace b2 := b2.grown hg (by simp; omega)
  replace be := below_grown be hg (by omega)
  clear hR hg
  have hR := hR1
  clear hR1
  go_wp2_with fail
  refine (wordG W3 r B 4 id hR (by omega) (by omega) x3.out).mono ?_
  clear x3
  rintro e W4 ⟨rfl, hR1, hg⟩
  replace b2 := b2.grown hg (by simp; omega)
  replace be := below_grown be hg (by omega)
  clear hR hg
  have hR := hR1
  clear hR1
  have zr := hR.lt
  go_wp2_with fail
  have b8 : Bk (W4.alloc (.cells #[.int .u8 (ts : Int), .int .i64 (ln : Int), .int .u16 (id : Int), .bool false, .bool false, .int .i64 0, .int .u8 0, .int .u8 0, .int .u16 0, .bool false, .int .u64 0, .int .u64 0, .bool false, .int .u64 0, .int .u64 0, .slice none 0 0] 77)) W4.heap.size 77 [.int .u8 (ts : Int), .int .i64 (ln : Int), .int .u16 (id : Int), .bool false, .bool false, .int .i64 0, .int .u8 0, .int .u8 0, .int .u16 0, .bool false, .int .u64 0, .int .u64 0, .bool false, .int .u64 0, .int .u64 0, .slice none 0 0] := Bk.new W4 77 #[.int .u8 (ts : Int), .int .i64 (ln : Int), .int .u16 (id : Int), .bool false, .bool false, .int .i64 0, .int .u8 0, .int .u8 0, .int .u16 0, .bool false, .int .u64 0, .int .u64 0, .bool false, .int .u64 0, .int .u64 0, .slice none 0 0]
  replace b2 := b2.alloc (.cells #[.int .u8 (ts : Int), .int .i64 (ln : Int), .int .u16 (id : Int), .bool false, .bool false, .int .i64 0, .int .u8 0, .int .u8 0, .int .u16 0, .bool false, .int .u64 0, .int .u64 0, .bool false, .int .u64 0, .int .u64 0, .slice none 0 0] 77)
  replace be := Below.allocS be (.cells #[.int .u8 (ts : Int), .int .i64 (ln : Int), .int .u16 (id : Int), .bool false, .bool false, .int .i64 0, .int .u8 0, .int .u8 0, .int .u16 0, .bool false, .int .u64 0, .int .u64 0, .bool false, .int .u64 0, .int .u64 0, .slice none 0 0] 77)
  replace hR := hR.later ((Below.refl _ _).alloc (Nat.le_refl _) (.cells #[.int .u8 (ts : Int), .int .i64 (ln : Int), .int .u16 (id : Int), .bool false, .bool false, .int .i64 0, .int .u8 0, .int .u8 0, .int .u16 0, .bool false, .int .u64 0, .int .u64 0, .bool false, .int .u64 0, .int .u64 0, .slice none 0 0] 77))
  have zb := be.size
  generalize W4.alloc (.cells #[.int .u8 (ts : Int), .int .i64 (ln : Int), .int .u16 (id : Int), .bool false, .bool false, .int .i64 0, .int .u8 0, .int .u8 0, .int .u16 0, .bool false, .int .u64 0, .int .u64 0, .bool false, .int .u64 0, .int .u64 0, .slice none 0 0] 77) = V0 at *
  have zg : w.heap.size < W4.heap.size := by omega
  generalize W4.heap.size = g8 at *
  refine (wordG V0 r B 6 pl hR (by omega) (by omega) x4.out).mono ?_
  clear x4
  rintro e W5 ⟨rfl, hR1, hg⟩
  replace b2 := b2.grown hg (by simp; omega)
  replace b8 := b8.grown hg (by simp; omega)
  replace be := below_grown be hg (by omega)
  clear hR hg
  have hR := hR1
  clear hR1
  have y1 : W5.cell? ⟨g8, 1, none⟩ = some (.int .i64 (ln : Int)) := b8.cell 1
  have z8 := b8.lt
  clear zb
  go_wp2_with fail
  refine (HO.out _ _ _ (RdL.litW [.slice A sz c] [l.take sz] (by simp) (.cons ⟨_, _, _, rfl, hts.later be⟩ .nil))).mono ?_
  rintro e w1 ⟨rfl, rfl⟩
  replace b2 := b2.alloc (.cells #[.slice A sz c] 24)
  replace b8 := b8.alloc (.cells #[.slice A sz c] 24)
  replace hR := hR.later ((Below.refl _ _).alloc (Nat.le_refl _) (.cells #[.slice A sz c] 24))
  replace be := Below.allocS be (.cells #[.slice A sz c] 24)
  clear y1 z8
  generalize W5.alloc (.cells #[.slice A sz c] 24) = V1 at *
  have q := b8.cell 3
  have fr := b8.frozen 3
  have z8 := b8.lt
  simp only [List.getElem?_cons_succ, List.getElem?_cons_zero] at q
  go_upto_region 15 with (fail)
  replace b8 := b8.set_ 3 (.bool st)
  replace b2 := b2.far (p := ⟨g8, 3, none⟩) (by simp; omega) (.bool st)
  replace hR := hR.far (p := ⟨g8, 3, none⟩) (by simp; omega) (.bool st)
  replace be := be.setCell (p := ⟨g8, 3, none⟩) (by simp; omega) (.bool st)
  simp only [List.set_cons_succ, List.set_cons_zero] at b8
  clear q fr z8
  generalize V1.setCell ⟨g8, 3, none⟩ (.bool st) = W6 at *
  have q := b8.cell 4
  have fr := b8.frozen 4
  have z8 := b8.lt
  simp only [List.getElem?_cons_succ, List.getElem?_cons_zero] at q
  go_upto_region 16 with (fail)
  replace b8 := b8.set_ 4 (.bool mo)
  replace b2 := b2.far (p := ⟨g8, 4, none⟩) (by simp; omega) (.bool mo)
  replace hR := hR.far (p := ⟨g8, 4, none⟩) (by simp; omega) (.bool mo)
  replace be := be.setCell (p := ⟨g8, 4, none⟩) (by simp; omega) (.bool mo)
  simp only [List.set_cons_succ, List.set_cons_zero] at b8
  clear q fr z8
  generalize W6.setCell ⟨g8, 4, none⟩ (.bool mo) = W7 at *
  have q := b8.cell 5
  have fr := b8.frozen 5
  have z8 := b8.lt
  simp only [List.getElem?_cons_succ, List.getElem?_cons_zero] at q
  go_upto_region 17 with (fail)
  replace b8 := b8.set_ 5 (.int .i64 (fo : Int))
  replace b2 := b2.far (p := ⟨g8, 5, none⟩) (by simp; omega) (.int .i64 (fo : Int))
  replace hR := hR.far (p := ⟨g8, 5, none⟩) (by simp; omega) (.int .i64 (fo : Int))
  replace be := be.setCell (p := ⟨g8, 5, none⟩) (by simp; omega) (.int .i64 (fo : Int))
  simp only [List.set_cons_succ, List.set_cons_zero] at b8
  clear q fr z8
  generalize W7.setCell ⟨g8, 5, none⟩ (.int .i64 (fo : Int)) = W8 at *
  go_wp2_with fail
  refine (byteG W8 r B 8 tl hR (by omega) (by omega) x5.out).mono ?_
  clear x5
  rintro e W9 ⟨rfl, hR1, hg⟩
  replace b2 := b2.grown hg (by simp; omega)
  replace b8 := b8.grown hg (by simp; omega)
  replace be := below_grown be hg (by omega)
  clear hR hg
  have hR := hR1
  clear hR1
  have q := b8.cell 6
  have fr := b8.frozen 6
  have z8 := b8.lt
  simp only [List.getElem?_cons_succ, List.getElem?_cons_zero] at q
  go_upto_region 18 with (fail)
  replace b8 := b8.set_ 6 (.int .u8 (tl : Int))
  replace b2 := b2.far (p := ⟨g8, 6, none⟩) (by simp; omega) (.int .u8 (tl : Int))
  replace hR := hR.far (p := ⟨g8, 6, none⟩) (by simp; omega) (.int .u8 (tl : Int))
  replace be := be.setCell (p := ⟨g8, 6, none⟩) (by simp; omega) (.int .u8 (tl : Int))
  simp only [List.set_cons_succ, List.set_cons_zero] at b8
  clear q fr z8
  generalize W9.setCell ⟨g8, 6, none⟩ (.int .u8 (tl : Int)) = W10 at *
  go_wp2_with fail
  refine (byteG W10 r B 9 pr hR (by omega) (by omega) x6.out).mono ?_
  clear x6
  rintro e W11 ⟨rfl, hR1, hg⟩
  replace b2 := b2.grown hg (by simp; omega)
  replace b8 := b8.grown hg (by simp; omega)
  replace be := below_grown be hg (by omega)
  clear hR hg
  have hR := hR1
  clear hR1
  have q := b8.cell 7
  have fr := b8.frozen 7
  have z8 := b8.lt
  simp only [List.getElem?_cons_succ, List.getElem?_cons_zero] at q
  go_upto_region 19 with (fail)
  replace b8 := b8.set_ 7 (.int .u8 (pr : Int))
  replace b2 := b2.far (p := ⟨g8, 7, none⟩) (by simp; omega) (.int .u8 (pr : Int))
  replace hR := hR.far (p := ⟨g8, 7, none⟩) (by simp; omega) (.int .u8 (pr : Int))
  replace be := be.setCell (p := ⟨g8, 7, none⟩) (by simp; omega) (.int .u8 (pr : Int))
  simp only [List.set_cons_succ, List.set_cons_zero] at b8
  clear q fr z8
  generalize W11.setCell ⟨g8, 7, none⟩ (.int .u8 (pr : Int)) = W12 at *
  go_wp2_with fail
  refine (wordG W12 r B 10 sm hR (by omega) (by omega) x7.out).mono ?_
  clear x7
  rintro e W13 ⟨rfl, hR1, hg⟩
  replace b2 := b2.grown hg (by simp; omega)
  replace b8 := b8.grown hg (by simp; omega)
  replace be := below_grown be hg (by omega)
  clear hR hg
  have hR := hR1
  clear hR1
  have q := b8.cell 8
  have fr := b8.frozen 8
  have z8 := b8.lt
  simp only [List.getElem?_cons_succ, List.getElem?_cons_zero] at q
  go_upto_region 20 with (fail)
  replace b8 := b8.set_ 8 (.int .u16 (sm : Int))
  replace b2 := b2.far (p := ⟨g8, 8, none⟩) (by simp; omega) (.int .u16 (sm : Int))
  replace hR := hR.far (p := ⟨g8, 8, none⟩) (by simp; omega) (.int .u16 (sm : Int))
  replace be := be.setCell (p := ⟨g8, 8, none⟩) (by simp; omega) (.int .u16 (sm : Int))
  simp only [List.set_cons_succ, List.set_cons_zero] at b8
  clear q fr z8
  generalize W13.setCell ⟨g8, 8, none⟩ (.int .u16 (sm : Int)) = W14 at *
  go_wp2_with fail
  refine (longG W14 r B 12 sa hR (by omega) (by omega) x8.out).mono ?_
  clear x8
  rintro e W15 ⟨rfl, hR1, hg⟩
  replace b2 := b2.grown hg (by simp; omega)
  replace b8 := b8.grown hg (by simp; omega)
  replace be := below_grown be hg (by omega)
  clear hR hg
  have hR := hR1
  clear hR1
  have z8 := b8.lt
  have zr := hR.lt
  go_upto_region 21 with (refine at_op (.store 29 (.tmp 96) (.tmp 95)) rfl ?_; refine wpList_stM (t := 77) 29 (.tmp 96) (.tmp 95) rfl rfl (adC false 0 sa) _ (by simp [adC]) (adC_one _ _ _) rfl rfl b8 (szAd _ _ _) ?_; intro W16 b8' hg3)
  simp only [splice, adC, List.take_succ_cons, List.take_zero, List.drop_succ_cons, List.drop_zero, List.length_cons, List.length_nil, Nat.zero_add, Nat.reduceAdd, List.cons_append, List.nil_append] at b8'
  replace b2 := b2.grown hg3 (by simp; omega)
  replace hR := hR.far_ hg3 (by omega)
  replace be := below_grown be hg3 (by omega)
  clear b8 hg3 z8 zr
  have b8 := b8'
  clear b8'
  go_wp2_with fail
  refine (longG W16 r B 16 da hR (by omega) (by omega) x9.out).mono ?_
  clear x9
  rintro e W17 ⟨rfl, hR1, hg⟩
  replace b2 := b2.grown hg (by simp; omega)
  replace b8 := b8.grown hg (by simp; omega)
  replace be := below_grown be hg (by omega)
  clear hR hg
  have hR := hR1
  clear hR1
  have z8 := b8.lt
  have zr := hR.lt
  go_upto_region 22 with (refine at_op (.store 29 (.tmp 101) (.tmp 100)) rfl ?_; refine wpList_stM (t := 77) 29 (.tmp 101) (.tmp 100) rfl rfl (adC false 0 da) _ (by simp [adC]) (adC_one _ _ _) rfl rfl b8 (szAd _ _ _) ?_; intro W18 b8' hg3)
  simp only [splice, adC, List.take_succ_cons, List.take_zero, List.drop_succ_cons, List.drop_zero, List.length_cons, List.length_nil, Nat.zero_add, Nat.reduceAdd, List.cons_append, List.nil_append] at b8'
  replace b2 := b2.grown hg3 (by simp; omega)
  replace hR := hR.far_ hg3 (by omega)
  replace be := below_grown be hg3 (by omega)
  clear b8 hg3 z8 zr
  have b8 := b8'
  clear b8'
  go_wp2_with fail
  refine (HC.out _ (ho0.later be)).mono ?_
  rintro e w1 ⟨Ao, no, ko, bso, mo9, rfl, rfl, hoo⟩
  have z8 := b8.lt
  have z2 := b2.lt
  have zo8 : ∀ b, (Value.slice Ao no ko).ownBlock = some b → b ≠ g8 := fun b hb => by have := (hoo.blk b hb).1; omega
  have zo2 : ∀ b, (Value.slice Ao no ko).ownBlock = some b → b ≠ w.heap.size := fun b hb => by have := (hoo.blk b hb).1; omega
  clear z8 z2
  replace b2 := b2.later (below_plus _ bso mo9)
  replace b8 := b8.later (below_plus _ bso mo9)
  replace hR := hR.later (below_plus _ bso mo9)
  have zbe := be.size
  replace be := belowP be bso mo9
  replace hoo := hoo.mono (base' := w.heap.size) zbe
  generalize plus W18 bso mo9 = V2 at *
  have q := b8.cell 15
  have fr := b8.frozen 15
  have z8 := b8.lt
  simp only [List.getElem?_cons_succ, List.getElem?_cons_zero] at q
  go_upto_region 23 with (fail)
  replace b8 := b8.set_ 15 (.slice Ao no ko)
  replace b2 := b2.far (p := ⟨g8, 15, none⟩) (by simp; omega) (.slice Ao no ko)
  replace hR := hR.far (p := ⟨g8, 15, none⟩) (by simp; omega) (.slice Ao no ko)
  replace be := be.setCell (p := ⟨g8, 15, none⟩) (by simp; omega) (.slice Ao no ko)
  simp only [List.set_cons_succ, List.set_cons_zero] at b8
  clear q fr z8
  replace hoo := hoo.grown (grownBy_setCell V2 g8 15 (.slice Ao no ko)) (fun b hb e => zo8 b hb (by injection e with e; exact e.symm))
  generalize V2.setCell ⟨g8, 15, none⟩ (.slice Ao no ko) = W19 at *
  go_wp2_with (first
    | (refine at_op (.load 77 (.tmp 8)) rfl ?_; refine wpList_ldA (t := 77) 77 (.tmp 8) rfl rfl (h4C ts (ln : Int) id st mo (fo : Int) tl pr sm false 0 sa false 0 da Ao no ko) rfl (b8) (whole_ _) u1 u2 (szH4 _ _ _ _ _ _ _ _ _ _ _ _ _ _ _ _ _ _) ?_)
    | (refine at_op (.store 77 (.tmp 2) (.tmp 107)) rfl ?_; refine wpList_stA (t := 77) 77 (.tmp 2) (.tmp 107) rfl rfl (h4C ts (ln : Int) id st mo (fo : Int) tl pr sm false 0 sa false 0 da Ao no ko) (h4C 0 0 0 false false 0 0 0 0 false 0 0 false 0 0 none 0 0) rfl (h4C_one _ _ _ _ _ _ _ _ _ _ _ _ _ _ _ _ _ _) rfl rfl b2 (szH4 _ _ _ _ _ _ _ _ _ _ _ _ _ _ _ _ _ _) ?_; intro W9 h9 g9))
  replace hoo := hoo.grown g9 (fun b hb e => zo2 b hb (by injection e with e; exact e.symm))
  rw [hs9.out]
  refine bodyPost_agg3 Try.results119 rfl rfl rfl h9.range u1 u2 (szH4 _ _ _ _ _ _ _ _ _ _ _ _ _ _ _ _ _ _) rfl (RetHd.mk hoo ?_)
  exact below_grown be g9 (by omega)
end Go.Proofs.Ytldecdeiibfekaa
