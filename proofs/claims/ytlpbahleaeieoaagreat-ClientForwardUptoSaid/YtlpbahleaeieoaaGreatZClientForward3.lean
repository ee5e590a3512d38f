/- Texts of the law ClientForward, part 3. -/
import Derived.Test.YtlpbahleaeieoaaGreatZClientForward2
set_option linter.unusedVariables false
set_option linter.unusedSimpArgs false
namespace Go.Proofs.YtlpbahleaeieoaaGreat
section
open Go.RowKit
attribute [local go_sem ↓] sliced_cut
attribute [local go_sem] cutA_zero
set_option maxHeartbeats 4000000
set_option maxRecDepth 100000
theorem hdr4_l1 (A : Option Addr) (n c : Nat) (l : List UInt8) (w : World) (h : Rb w A n c l) (hm9 : n ≤ 2000000) (f ts ln id pl : Nat) (x0 : num ((l.drop 0).take 1) = f) (x1 : num ((l.drop 1).take 1) = ts) (x2 : num ((l.drop 2).take 2) = ln) (x3 : num ((l.drop 4).take 2) = id) (x4 : num ((l.drop 6).take 2) = pl) (hn : 20 ≤ n) (hb : f / 16 = 4) (hs : 20 ≤ 4 * (f % 16)) (hp9 : pl < 32768) (hl9 : 4 * (f % 16) ≤ ln) (hq : n < 4 * (f % 16)) : Calls Tryz.prog 64 #[.slice A n c] w (RetV w (.tuple #[.agg (h4C 0 0 0 false false 0 0 0 0 false 0 0 false 0 0 none 0 0).toArray, .int .i64 0, .int .i64 20])) := by
 obtain ⟨du, u1, u2⟩ := rowH4
 have hc := h.2.1
 have hl := h.1
 have h20n : (20 : Int) ≤ (n : Int) := by omega
 have h20c : (20 : Int) ≤ (c : Int) := by omega
 have d20 : decide ((n : Int) < 20) = false := by simp only [decide_eq_false_iff_not]; omega
 have ht20 : Rb w A 20 c (l.take 20) := h.take (by omega)
 have hf8 : f < 256 := by rw [← x0]; exact num_lt' l 0 1 256 (by decide)
 have hpl : pl < 65536 := by rw [← x4]; exact num_lt' l 6 2 65536 (by decide)
 have hln : ln < 65536 := by rw [← x2]; exact num_lt' l 2 2 65536 (by decide)
 replace x0 : Hid (num (((l.take 20).drop 0).take 1) = f) := Lib.hid (by rw [num_in l 20 0 1 (by decide)]; exact x0)
 replace x1 : Hid (num (((l.take 20).drop 1).take 1) = ts) := Lib.hid (by rw [num_in l 20 1 1 (by decide)]; exact x1)
 replace x2 : Hid (num (((l.take 20).drop 2).take 2) = ln) := Lib.hid (by rw [num_in l 20 2 2 (by decide)]; exact x2)
 replace x3 : Hid (num (((l.take 20).drop 4).take 2) = id) := Lib.hid (by rw [num_in l 20 4 2 (by decide)]; exact x3)
 replace x4 : Hid (num (((l.take 20).drop 6).take 2) = pl) := Lib.hid (by rw [num_in l 20 6 2 (by decide)]; exact x4)
 have hB : (l.take 20).length = 20 := by rw [List.length_take]; omega
 have HR := Lib.hid (fun W (h : Rb W A 20 c (l.take 20)) => readK A 20 c (l.take 20) W h (by decide))
 generalize l.take 20 = B at *
 have hB1 : B.length ≤ 20 := by omega
 have hB2 : 20 ≤ B.length := by omega
 clear hB
 obtain ⟨m, hm⟩ : ∃ m : Nat, m = f % 16 := ⟨_, rfl⟩
 have e1 := u8_and15 f hf8
 rw [← hm] at e1
 obtain ⟨sz, hsz⟩ : ∃ s : Nat, s = 4 * m := ⟨_, rfl⟩
 have e2 : IntKind.i64.wrap (4 * (m : Int)) = (sz : Int) := by rw [IntWalk.i64_in _ (by omega)]; omega
 have e3 : IntKind.i64.wrap (m : Int) = (m : Int) := IntWalk.i64_in _ (by omega)
 have e4 : IntKind.i64.wrap (ln : Int) = (ln : Int) := IntWalk.i64_in _ (by omega)
 have hb1 : (f : Int) / 16 = 4 := by omega
 have hb1n : ((f : Int) / 16 != 4) = false := by rw [hb1]; rfl
 have qd8 : decide ((sz : Int) < 20) = false := by simp only [decide_eq_false_iff_not]; omega
 have qd9 : decide (sz < 20) = false := by simp only [decide_eq_false_iff_not]; omega
 have hp0 : pl / 32768 % 2 = 0 := by omega
 have hp : bits .and .u16 (pl : Int) 32768 = 0 := by rw [and15 pl hpl, hp0]; rfl
 clear hp0
 have qd10 : decide ((ln : Int) < (sz : Int)) = false := by simp only [decide_eq_false_iff_not]; omega
 have qd11 : decide (ln < sz) = false := by simp only [decide_eq_false_iff_not]; omega
 have qd12 : decide ((n : Int) < (sz : Int)) = true := by simp only [decide_eq_true_eq]; omega
 have qd13 : decide (n < sz) = true := by simp only [decide_eq_true_eq]; omega
 clear hm hsz hb1
 have b2 : Bk (w.alloc (.cells #[.int .u8 0, .int .i64 0, .int .u16 0, .bool false, .bool false, .int .i64 0, .int .u8 0, .int .u8 0, .int .u16 0, .bool false, .int .u64 0, .int .u64 0, .bool false, .int .u64 0, .int .u64 0, .slice none 0 0] 99)) w.heap.size 99 (h4C 0 0 0 false false 0 0 0 0 false 0 0 false 0 0 none 0 0) := Bk.new w 99 #[.int .u8 0, .int .i64 0, .int .u16 0, .bool false, .bool false, .int .i64 0, .int .u8 0, .int .u8 0, .int .u16 0, .bool false, .int .u64 0, .int .u64 0, .bool false, .int .u64 0, .int .u64 0, .slice none 0 0]
 have be : Below w.heap.size w (w.alloc (.cells #[.int .u8 0, .int .i64 0, .int .u16 0, .bool false, .bool false, .int .i64 0, .int .u8 0, .int .u8 0, .int .u16 0, .bool false, .int .u64 0, .int .u64 0, .bool false, .int .u64 0, .int .u64 0, .slice none 0 0] 99)) := Below.allocS (Below.refl _ _) _
 go_enter Tryz.func64, Tryz.ntmps64
 go_wp2_with fail
 refine (HR.out _ (ht20.alloc _)).mono ?_
 rintro e w1 ⟨r, bs1, d1, rfl, rfl, hr1, hR⟩
 replace b2 := b2.later (below_plus _ bs1 d1)
 replace be := belowP be bs1 d1
 have hr2 : w.heap.size < r := by simp at hr1; omega
 generalize plus (w.alloc (.cells #[.int .u8 0, .int .i64 0, .int .u16 0, .bool false, .bool false, .int .i64 0, .int .u8 0, .int .u8 0, .int .u16 0, .bool false, .int .u64 0, .int .u64 0, .bool false, .int .u64 0, .int .u64 0, .slice none 0 0] 99)) bs1 d1 = W0 at *
 clear hr1
 go_wp2_with fail
 refine (byteG W0 r B 0 f hR (by omega) (by omega) x0.out).mono ?_
 clear x0
 rintro e W1 ⟨rfl, hR1, hg⟩
 replace b2 := b2.grown hg (by simp; omega)
 replace be := below_grown be hg (by omega)
 clear hR hg
 have hR := hR1
 clear hR1
 go_wp2_with fail
 refine (byteG W1 r B 1 ts hR (by omega) (by omega) x1.out).mono ?_
 clear x1
 rintro e W2 ⟨rfl, hR1, hg⟩
 replace b2 := b2.grown hg (by simp; omega)
 replace be := below_grown be hg (by omega)
 clear hR hg
 have hR := hR1
 clear hR1
 go_wp2_with fail
 refine (wordG W2 r B 2 ln hR (by omega) (by omega) x2.out).mono ?_
 clear x2
 rintro e W3 ⟨rfl, hR1, hg⟩
 replace b2 := b2.grown hg (by simp; omega)
 replace be := below_grown be hg (by omega)
 clear hR hg
 have hR := hR1
 clear hR1
 go_wp2_with fail
 refine (wordG W3 r B 4 id hR (by omega) (by omega) x3.out).mono ?_
 clear x3
 rintro e W4 ⟨rfl, hR1, hg⟩
 replace b2 := b2.grown hg (by simp; omega)
 replace be := below_grown be hg (by omega)
 clear hR hg
 have hR := hR1
 clear hR1
 have zr := hR.lt
 go_wp2_with fail
 have b8 : Bk (W4.alloc (.cells #[.int .u8 (ts : Int), .int .i64 (ln : Int), .int .u16 (id : Int), .bool false, .bool false, .int .i64 0, .int .u8 0, .int .u8 0, .int .u16 0, .bool false, .int .u64 0, .int .u64 0, .bool false, .int .u64 0, .int .u64 0, .slice none 0 0] 99)) W4.heap.size 99 [.int .u8 (ts : Int), .int .i64 (ln : Int), .int .u16 (id : Int), .bool false, .bool false, .int .i64 0, .int .u8 0, .int .u8 0, .int .u16 0, .bool false, .int .u64 0, .int .u64 0, .bool false, .int .u64 0, .int .u64 0, .slice none 0 0] := Bk.new W4 99 #[.int .u8 (ts : Int), .int .i64 (ln : Int), .int .u16 (id : Int), .bool false, .bool false, .int .i64 0, .int .u8 0, .int .u8 0, .int .u16 0, .bool false, .int .u64 0, .int .u64 0, .bool false, .int .u64 0, .int .u64 0, .slice none 0 0]
 replace b2 := b2.alloc (.cells #[.int .u8 (ts : Int), .int .i64 (ln : Int), .int .u16 (id : Int), .bool false, .bool false, .int .i64 0, .int .u8 0, .int .u8 0, .int .u16 0, .bool false, .int .u64 0, .int .u64 0, .bool false, .int .u64 0, .int .u64 0, .slice none 0 0] 99)
 replace be := Below.allocS be (.cells #[.int .u8 (ts : Int), .int .i64 (ln : Int), .int .u16 (id : Int), .bool false, .bool false, .int .i64 0, .int .u8 0, .int .u8 0, .int .u16 0, .bool false, .int .u64 0, .int .u64 0, .bool false, .int .u64 0, .int .u64 0, .slice none 0 0] 99)
 replace hR := hR.later ((Below.refl _ _).alloc (Nat.le_refl _) (.cells #[.int .u8 (ts : Int), .int .i64 (ln : Int), .int .u16 (id : Int), .bool false, .bool false, .int .i64 0, .int .u8 0, .int .u8 0, .int .u16 0, .bool false, .int .u64 0, .int .u64 0, .bool false, .int .u64 0, .int .u64 0, .slice none 0 0] 99))
 have zb := be.size
 generalize W4.alloc (.cells #[.int .u8 (ts : Int), .int .i64 (ln : Int), .int .u16 (id : Int), .bool false, .bool false, .int .i64 0, .int .u8 0, .int .u8 0, .int .u16 0, .bool false, .int .u64 0, .int .u64 0, .bool false, .int .u64 0, .int .u64 0, .slice none 0 0] 99) = V0 at *
 have zg : w.heap.size < W4.heap.size := by omega
 generalize W4.heap.size = g8 at *
 refine (wordG V0 r B 6 pl hR (by omega) (by omega) x4.out).mono ?_
 clear x4
 rintro e W5 ⟨rfl, hR1, hg⟩
 replace b2 := b2.grown hg (by simp; omega)
 replace b8 := b8.grown hg (by simp; omega)
 replace be := below_grown be hg (by omega)
 clear hR hg
 have hR := hR1
 clear hR1
 have y1 : W5.cell? ⟨g8, 1, none⟩ = some (.int .i64 (ln : Int)) := b8.cell 1
 have z8 := b8.lt
 clear zb
 go_wp2_with (refine at_op (.store 99 (.tmp 2) (.tmp 63)) rfl ?_; refine wpList_stA (t := 99) 99 (.tmp 2) (.tmp 63) rfl rfl (h4C 0 0 0 false false 0 0 0 0 false 0 0 false 0 0 none 0 0) (h4C 0 0 0 false false 0 0 0 0 false 0 0 false 0 0 none 0 0) rfl (h4C_one _ _ _ _ _ _ _ _ _ _ _ _ _ _ _ _ _ _) rfl rfl b2 (szH4 _ _ _ _ _ _ _ _ _ _ _ _ _ _ _ _ _ _) ?_; intro W9 h9 g9)
 refine bodyPost_agg3 Tryz.results64 rfl rfl rfl h9.range u1 u2 (szH4 _ _ _ _ _ _ _ _ _ _ _ _ _ _ _ _ _ _) rfl (RetV.mk ?_)
 exact below_grown be g9 (by omega)
theorem hdr4_l2 (A : Option Addr) (n c : Nat) (l : List UInt8) (w : World) (h : Rb w A n c l) (hm9 : n ≤ 2000000) (f ts ln id pl : Nat) (x0 : num ((l.drop 0).take 1) = f) (x1 : num ((l.drop 1).take 1) = ts) (x2 : num ((l.drop 2).take 2) = ln) (x3 : num ((l.drop 4).take 2) = id) (x4 : num ((l.drop 6).take 2) = pl) (hn : 20 ≤ n) (hb : f / 16 = 4) (hs : 20 ≤ 4 * (f % 16)) (hp9 : pl < 32768) (hl9 : 4 * (f % 16) ≤ ln) (hq0 : 4 * (f % 16) ≤ n) (hq : n < ln) : Calls Tryz.prog 64 #[.slice A n c] w (RetV w (.tuple #[.agg (h4C 0 0 0 false false 0 0 0 0 false 0 0 false 0 0 none 0 0).toArray, .int .i64 0, .int .i64 20])) := by
 obtain ⟨du, u1, u2⟩ := rowH4
 have hc := h.2.1
 have hl := h.1
 have h20n : (20 : Int) ≤ (n : Int) := by omega
 have h20c : (20 : Int) ≤ (c : Int) := by omega
 have d20 : decide ((n : Int) < 20) = false := by simp only [decide_eq_false_iff_not]; omega
 have ht20 : Rb w A 20 c (l.take 20) := h.take (by omega)
 have hf8 : f < 256 := by rw [← x0]; exact num_lt' l 0 1 256 (by decide)
 have hpl : pl < 65536 := by rw [← x4]; exact num_lt' l 6 2 65536 (by decide)
 have hln : ln < 65536 := by rw [← x2]; exact num_lt' l 2 2 65536 (by decide)
 replace x0 : Hid (num (((l.take 20).drop 0).take 1) = f) := Lib.hid (by rw [num_in l 20 0 1 (by decide)]; exact x0)
 replace x1 : Hid (num (((l.take 20).drop 1).take 1) = ts) := Lib.hid (by rw [num_in l 20 1 1 (by decide)]; exact x1)
 replace x2 : Hid (num (((l.take 20).drop 2).take 2) = ln) := Lib.hid (by rw [num_in l 20 2 2 (by decide)]; exact x2)
 replace x3 : Hid (num (((l.take 20).drop 4).take 2) = id) := Lib.hid (by rw [num_in l 20 4 2 (by decide)]; exact x3)
 replace x4 : Hid (num (((l.take 20).drop 6).take 2) = pl) := Lib.hid (by rw [num_in l 20 6 2 (by decide)]; exact x4)
 have hB : (l.take 20).length = 20 := by rw [List.length_take]; omega
 have HR := Lib.hid (fun W (h : Rb W A 20 c (l.take 20)) => readK A 20 c (l.take 20) W h (by decide))
 generalize l.take 20 = B at *
 have hB1 : B.length ≤ 20 := by omega
 have hB2 : 20 ≤ B.length := by omega
 clear hB
 obtain ⟨m, hm⟩ : ∃ m : Nat, m = f % 16 := ⟨_, rfl⟩
 have e1 := u8_and15 f hf8
 rw [← hm] at e1
 obtain ⟨sz, hsz⟩ : ∃ s : Nat, s = 4 * m := ⟨_, rfl⟩
 have e2 : IntKind.i64.wrap (4 * (m : Int)) = (sz : Int) := by rw [IntWalk.i64_in _ (by omega)]; omega
 have e3 : IntKind.i64.wrap (m : Int) = (m : Int) := IntWalk.i64_in _ (by omega)
 have e4 : IntKind.i64.wrap (ln : Int) = (ln : Int) := IntWalk.i64_in _ (by omega)
 have hb1 : (f : Int) / 16 = 4 := by omega
 have hb1n : ((f : Int) / 16 != 4) = false := by rw [hb1]; rfl
 have qd8 : decide ((sz : Int) < 20) = false := by simp only [decide_eq_false_iff_not]; omega
 have qd9 : decide (sz < 20) = false := by simp only [decide_eq_false_iff_not]; omega
 have hp0 : pl / 32768 % 2 = 0 := by omega
 have hp : bits .and .u16 (pl : Int) 32768 = 0 := by rw [and15 pl hpl, hp0]; rfl
 clear hp0
 have qd10 : decide ((ln : Int) < (sz : Int)) = false := by simp only [decide_eq_false_iff_not]; omega
 have qd11 : decide (ln < sz) = false := by simp only [decide_eq_false_iff_not]; omega
 have qd14 : decide ((n : Int) < (sz : Int)) = false := by simp only [decide_eq_false_iff_not]; omega
 have qd15 : decide (n < sz) = false := by simp only [decide_eq_false_iff_not]; omega
 have qd16 : decide ((n : Int) < (ln : Int)) = true := by simp only [decide_eq_true_eq]; omega
 have qd17 : decide (n < ln) = true := by simp only [decide_eq_true_eq]; omega
 clear hm hsz hb1
 have b2 : Bk (w.alloc (.cells #[.int .u8 0, .int .i64 0, .int .u16 0, .bool false, .bool false, .int .i64 0, .int .u8 0, .int .u8 0, .int .u16 0, .bool false, .int .u64 0, .int .u64 0, .bool false, .int .u64 0, .int .u64 0, .slice none 0 0] 99)) w.heap.size 99 (h4C 0 0 0 false false 0 0 0 0 false 0 0 false 0 0 none 0 0) := Bk.new w 99 #[.int .u8 0, .int .i64 0, .int .u16 0, .bool false, .bool false, .int .i64 0, .int .u8 0, .int .u8 0, .int .u16 0, .bool false, .int .u64 0, .int .u64 0, .bool false, .int .u64 0, .int .u64 0, .slice none 0 0]
 have be : Below w.heap.size w (w.alloc (.cells #[.int .u8 0, .int .i64 0, .int .u16 0, .bool false, .bool false, .int .i64 0, .int .u8 0, .int .u8 0, .int .u16 0, .bool false, .int .u64 0, .int .u64 0, .bool false, .int .u64 0, .int .u64 0, .slice none 0 0] 99)) := Below.allocS (Below.refl _ _) _
 go_enter Tryz.func64, Tryz.ntmps64
 go_wp2_with fail
 refine (HR.out _ (ht20.alloc _)).mono ?_
 rintro e w1 ⟨r, bs1, d1, rfl, rfl, hr1, hR⟩
 replace b2 := b2.later (below_plus _ bs1 d1)
 replace be := belowP be bs1 d1
 have hr2 : w.heap.size < r := by simp at hr1; omega
 generalize plus (w.alloc (.cells #[.int .u8 0, .int .i64 0, .int .u16 0, .bool false, .bool false, .int .i64 0, .int .u8 0, .int .u8 0, .int .u16 0, .bool false, .int .u64 0, .int .u64 0, .bool false, .int .u64 0, .int .u64 0, .slice none 0 0] 99)) bs1 d1 = W0 at *
 clear hr1
 go_wp2_with fail
 refine (byteG W0 r B 0 f hR (by omega) (by omega) x0.out).mono ?_
 clear x0
 rintro e W1 ⟨rfl, hR1, hg⟩
 replace b2 := b2.grown hg (by simp; omega)
 replace be := below_grown be hg (by omega)
 clear hR hg
 have hR := hR1
 clear hR1
 go_wp2_with fail
 refine (byteG W1 r B 1 ts hR (by omega) (by omega) x1.out).mono ?_
 clear x1
 rintro e W2 ⟨rfl, hR1, hg⟩
 replace b2 := b2.grown hg (by simp; omega)
 replace be := below_grown be hg (by omega)
 clear hR hg
 have hR := hR1
 clear hR1
 go_wp2_with fail
 refine (wordG W2 r B 2 ln hR (by omega) (by omega) x2.out).mono ?_
 clear x2
 rintro e W3 ⟨rfl, hR1, hg⟩
 replace b2 := b2.grown hg (by simp; omega)
 replace be := below_grown be hg (by omega)
 clear hR hg
 have hR := hR1
 clear hR1
 go_wp2_with fail
 refine (wordG W3 r B 4 id hR (by omega) (by omega) x3.out).mono ?_
 clear x3
 rintro e W4 ⟨rfl, hR1, hg⟩
 replace b2 := b2.grown hg (by simp; omega)
 replace be := below_grown be hg (by omega)
 clear hR hg
 have hR := hR1
 clear hR1
 have zr := hR.lt
 go_wp2_with fail
 have b8 : Bk (W4.alloc (.cells #[.int .u8 (ts : Int), .int .i64 (ln : Int), .int .u16 (id : Int), .bool false, .bool false, .int .i64 0, .int .u8 0, .int .u8 0, .int .u16 0, .bool false, .int .u64 0, .int .u64 0, .bool false, .int .u64 0, .int .u64 0, .slice none 0 0] 99)) W4.heap.size 99 [.int .u8 (ts : Int), .int .i64 (ln : Int), .int .u16 (id : Int), .bool false, .bool false, .int .i64 0, .int .u8 0, .int .u8 0, .int .u16 0, .bool false, .int .u64 0, .int .u64 0, .bool false, .int .u64 0, .int .u64 0, .slice none 0 0] := Bk.new W4 99 #[.int .u8 (ts : Int), .int .i64 (ln : Int), .int .u16 (id : Int), .bool false, .bool false, .int .i64 0, .int .u8 0, .int .u8 0, .int .u16 0, .bool false, .int .u64 0, .int .u64 0, .bool false, .int .u64 0, .int .u64 0, .slice none 0 0]
 replace b2 := b2.alloc (.cells #[.int .u8 (ts : Int), .int .i64 (ln : Int), .int .u16 (id : Int), .bool false, .bool false, .int .i64 0, .int .u8 0, .int .u8 0, .int .u16 0, .bool false, .int .u64 0, .int .u64 0, .bool false, .int .u64 0, .int .u64 0, .slice none 0 0] 99)
 replace be := Below.allocS be (.cells #[.int .u8 (ts : Int), .int .i64 (ln : Int), .int .u16 (id : Int), .bool false, .bool false, .int .i64 0, .int .u8 0, .int .u8 0, .int .u16 0, .bool false, .int .u64 0, .int .u64 0, .bool false, .int .u64 0, .int .u64 0, .slice none 0 0] 99)
 replace hR := hR.later ((Below.refl _ _).alloc (Nat.le_refl _) (.cells #[.int .u8 (ts : Int), .int .i64 (ln : Int), .int .u16 (id : Int), .bool false, .bool false, .int .i64 0, .int .u8 0, .int .u8 0, .int .u16 0, .bool false, .int .u64 0, .int .u64 0, .bool false, .int .u64 0, .int .u64 0, .slice none 0 0] 99))
 have zb := be.size
 generalize W4.alloc (.cells #[.int .u8 (ts : Int), .int .i64 (ln : Int), .int .u16 (id : Int), .bool false, .bool false, .int .i64 0, .int .u8 0, .int .u8 0, .int .u16 0, .bool false, .int .u64 0, .int .u64 0, .bool false, .int .u64 0, .int .u64 0, .slice none 0 0] 99) = V0 at *
 have zg : w.heap.size < W4.heap.size := by omega
 generalize W4.heap.size = g8 at *
 refine (wordG V0 r B 6 pl hR (by omega) (by omega) x4.out).mono ?_
 clear x4
 rintro e W5 ⟨rfl, hR1, hg⟩
 replace b2 := b2.grown hg (by simp; omega)
 replace b8 := b8.grown hg (by simp; omega)
 replace be := below_grown be hg (by omega)
 clear hR hg
 have hR := hR1
 clear hR1
 have y1 : W5.cell? ⟨g8, 1, none⟩ = some (.int .i64 (ln : Int)) := b8.cell 1
 have z8 := b8.lt
 clear zb
 go_wp2_with (refine at_op (.store 99 (.tmp 2) (.tmp 63)) rfl ?_; refine wpList_stA (t := 99) 99 (.tmp 2) (.tmp 63) rfl rfl (h4C 0 0 0 false false 0 0 0 0 false 0 0 false 0 0 none 0 0) (h4C 0 0 0 false false 0 0 0 0 false 0 0 false 0 0 none 0 0) rfl (h4C_one _ _ _ _ _ _ _ _ _ _ _ _ _ _ _ _ _ _) rfl rfl b2 (szH4 _ _ _ _ _ _ _ _ _ _ _ _ _ _ _ _ _ _) ?_; intro W9 h9 g9)
 refine bodyPost_agg3 Tryz.results64 rfl rfl rfl h9.range u1 u2 (szH4 _ _ _ _ _ _ _ _ _ _ _ _ _ _ _ _ _ _) rfl (RetV.mk ?_)
 exact below_grown be g9 (by omega)
theorem hdr4_sum (A : Option Addr) (n c : Nat) (l : List UInt8) (w : World) (h : Rb w A n c l) (hm9 : n ≤ 2000000) (f ts ln id pl : Nat) (x0 : num ((l.drop 0).take 1) = f) (x1 : num ((l.drop 1).take 1) = ts) (x2 : num ((l.drop 2).take 2) = ln) (x3 : num ((l.drop 4).take 2) = id) (x4 : num ((l.drop 6).take 2) = pl) (hn : 20 ≤ n) (hb : f / 16 = 4) (hs : 20 ≤ 4 * (f % 16)) (hp9 : pl < 32768) (hl9 : 4 * (f % 16) ≤ ln) (hq0 : 4 * (f % 16) ≤ n) (hq1 : ln ≤ n) (hck : 65535 - fd (tot false (l.take (4 * (f % 16)))) ≠ 0) : Calls Tryz.prog 64 #[.slice A n c] w (RetV w (.tuple #[.agg (h4C 0 0 0 false false 0 0 0 0 false 0 0 false 0 0 none 0 0).toArray, .int .i64 0, .int .i64 22])) := by
 obtain ⟨du, u1, u2⟩ := rowH4
 have hc := h.2.1
 have hl := h.1
 have h20n : (20 : Int) ≤ (n : Int) := by omega
 have h20c : (20 : Int) ≤ (c : Int) := by omega
 have d20 : decide ((n : Int) < 20) = false := by simp only [decide_eq_false_iff_not]; omega
 have ht20 : Rb w A 20 c (l.take 20) := h.take (by omega)
 have hf8 : f < 256 := by rw [← x0]; exact num_lt' l 0 1 256 (by decide)
 have hpl : pl < 65536 := by rw [← x4]; exact num_lt' l 6 2 65536 (by decide)
 have hln : ln < 65536 := by rw [← x2]; exact num_lt' l 2 2 65536 (by decide)
 replace x0 : Hid (num (((l.take 20).drop 0).take 1) = f) := Lib.hid (by rw [num_in l 20 0 1 (by decide)]; exact x0)
 replace x1 : Hid (num (((l.take 20).drop 1).take 1) = ts) := Lib.hid (by rw [num_in l 20 1 1 (by decide)]; exact x1)
 replace x2 : Hid (num (((l.take 20).drop 2).take 2) = ln) := Lib.hid (by rw [num_in l 20 2 2 (by decide)]; exact x2)
 replace x3 : Hid (num (((l.take 20).drop 4).take 2) = id) := Lib.hid (by rw [num_in l 20 4 2 (by decide)]; exact x3)
 replace x4 : Hid (num (((l.take 20).drop 6).take 2) = pl) := Lib.hid (by rw [num_in l 20 6 2 (by decide)]; exact x4)
 have hB : (l.take 20).length = 20 := by rw [List.length_take]; omega
 have HR := Lib.hid (fun W (h : Rb W A 20 c (l.take 20)) => readK A 20 c (l.take 20) W h (by decide))
 generalize hBB : l.take 20 = B at *
 clear hBB
 have hB1 : B.length ≤ 20 := by omega
 have hB2 : 20 ≤ B.length := by omega
 clear hB
 obtain ⟨m, hm⟩ : ∃ m : Nat, m = f % 16 := ⟨_, rfl⟩
 have e1 := u8_and15 f hf8
 rw [← hm] at e1
 obtain ⟨sz, hsz⟩ : ∃ s : Nat, s = 4 * m := ⟨_, rfl⟩
 have e2 : IntKind.i64.wrap (4 * (m : Int)) = (sz : Int) := by rw [IntWalk.i64_in _ (by omega)]; omega
 have e3 : IntKind.i64.wrap (m : Int) = (m : Int) := IntWalk.i64_in _ (by omega)
 have e4 : IntKind.i64.wrap (ln : Int) = (ln : Int) := IntWalk.i64_in _ (by omega)
 have hb1 : (f : Int) / 16 = 4 := by omega
 have hb1n : ((f : Int) / 16 != 4) = false := by rw [hb1]; rfl
 have qd8 : decide ((sz : Int) < 20) = false := by simp only [decide_eq_false_iff_not]; omega
 have qd9 : decide (sz < 20) = false := by simp only [decide_eq_false_iff_not]; omega
 have hp0 : pl / 32768 % 2 = 0 := by omega
 have hp : bits .and .u16 (pl : Int) 32768 = 0 := by rw [and15 pl hpl, hp0]; rfl
 clear hp0
 have qd10 : decide ((ln : Int) < (sz : Int)) = false := by simp only [decide_eq_false_iff_not]; omega
 have qd11 : decide (ln < sz) = false := by simp only [decide_eq_false_iff_not]; omega
 have qd18 : decide ((n : Int) < (sz : Int)) = false := by simp only [decide_eq_false_iff_not]; omega
 have qd19 : decide (n < sz) = false := by simp only [decide_eq_false_iff_not]; omega
 have qd20 : decide ((n : Int) < (ln : Int)) = false := by simp only [decide_eq_false_iff_not]; omega
 have qd21 : decide (n < ln) = false := by simp only [decide_eq_false_iff_not]; omega
 have hszn : sz ≤ n := by omega
 have hln9 : ln ≤ n := by omega
 have hszc : ((sz : Nat) : Int) ≤ (c : Int) := by omega
 have hsz0 : (0 : Int) ≤ (sz : Int) := by omega
 have hts : Rb w A sz c (l.take sz) := h.take hszn
 have hs4 : 4 * (f % 16) = sz := by omega
 have HO := Lib.hid (fun w A1 c1 (h : RdL w A1 1 [l.take sz]) => sumRight A1 1 c1 _ w h (by omega) (by simp; omega))
 have hfl : ([l.take sz] : List (List UInt8)).flatten = l.take sz := by simp
 rw [hfl] at HO
 rw [hs4] at hck
 have hck2 : (65535 - fd (tot false (l.take sz)) == 0) = false := by rw [beq_eq_false_iff_ne]; exact hck
 rw [hck2] at HO
 clear hm hsz hb1 hs4 hck hck2 hfl
 have b2 : Bk (w.alloc (.cells #[.int .u8 0, .int .i64 0, .int .u16 0, .bool false, .bool false, .int .i64 0, .int .u8 0, .int .u8 0, .int .u16 0, .bool false, .int .u64 0, .int .u64 0, .bool false, .int .u64 0, .int .u64 0, .slice none 0 0] 99)) w.heap.size 99 (h4C 0 0 0 false false 0 0 0 0 false 0 0 false 0 0 none 0 0) := Bk.new w 99 #[.int .u8 0, .int .i64 0, .int .u16 0, .bool false, .bool false, .int .i64 0, .int .u8 0, .int .u8 0, .int .u16 0, .bool false, .int .u64 0, .int .u64 0, .bool false, .int .u64 0, .int .u64 0, .slice none 0 0]
 have be : Below w.heap.size w (w.alloc (.cells #[.int .u8 0, .int .i64 0, .int .u16 0, .bool false, .bool false, .int .i64 0, .int .u8 0, .int .u8 0, .int .u16 0, .bool false, .int .u64 0, .int .u64 0, .bool false, .int .u64 0, .int .u64 0, .slice none 0 0] 99)) := Below.allocS (Below.refl _ _) _
 go_enter Tryz.func64, Tryz.ntmps64
 go_wp2_with fail
 refine (HR.out _ (ht20.alloc _)).mono ?_
 rintro e w1 ⟨r, bs1, d1, rfl, rfl, hr1, hR⟩
 replace b2 := b2.later (below_plus _ bs1 d1)
 replace be := belowP be bs1 d1
 have hr2 : w.heap.size < r := by simp at hr1; omega
 generalize plus (w.alloc (.cells #[.int .u8 0, .int .i64 0, .int .u16 0, .bool false, .bool false, .int .i64 0, .int .u8 0, .int .u8 0, .int .u16 0, .bool false, .int .u64 0, .int .u64 0, .bool false, .int .u64 0, .int .u64 0, .slice none 0 0] 99)) bs1 d1 = W0 at *
 clear hr1
 go_wp2_with fail
 refine (byteG W0 r B 0 f hR (by omega) (by omega) x0.out).mono ?_
 clear x0
 rintro e W1 ⟨rfl, hR1, hg⟩
 replace b2 := b2.grown hg (by simp; omega)
 replace be := below_grown be hg (by omega)
 clear hR hg
 have hR := hR1
 clear hR1
 go_wp2_with fail
 refine (byteG W1 r B 1 ts hR (by omega) (by omega) x1.out).mono ?_
 clear x1
 rintro e W2 ⟨rfl, hR1, hg⟩
 replace b2 := b2.grown hg (by simp; omega)
 replace be := below_grown be hg (by omega)
 clear hR hg
 have hR := hR1
 clear hR1
 go_wp2_with fail
 refine (wordG W2 r B 2 ln hR (by omega) (by omega) x2.out).mono ?_
 clear x2
 rintro e W3 ⟨rfl, hR1, hg⟩
 replace b2 := b2.grown hg (by simp; omega)
 replace be := below_grown be hg (by omega)
 clear hR hg
 have hR := hR1
 clear hR1
 go_wp2_with fail
 refine (wordG W3 r B 4 id hR (by omega) (by omega) x3.out).mono ?_
 clear x3
 rintro e W4 ⟨rfl, hR1, hg⟩
 replace b2 := b2.grown hg (by simp; omega)
 replace be := below_grown be hg (by omega)
 clear hR hg
 have hR := hR1
 clear hR1
 have zr := hR.lt
 go_wp2_with fail
 have b8 : Bk (W4.alloc (.cells #[.int .u8 (ts : Int), .int .i64 (ln : Int), .int .u16 (id : Int), .bool false, .bool false, .int .i64 0, .int .u8 0, .int .u8 0, .int .u16 0, .bool false, .int .u64 0, .int .u64 0, .bool false, .int .u64 0, .int .u64 0, .slice none 0 0] 99)) W4.heap.size 99 [.int .u8 (ts : Int), .int .i64 (ln : Int), .int .u16 (id : Int), .bool false, .bool false, .int .i64 0, .int .u8 0, .int .u8 0, .int .u16 0, .bool false, .int .u64 0, .int .u64 0, .bool false, .int .u64 0, .int .u64 0, .slice none 0 0] := Bk.new W4 99 #[.int .u8 (ts : Int), .int .i64 (ln : Int), .int .u16 (id : Int), .bool false, .bool false, .int .i64 0, .int .u8 0, .int .u8 0, .int .u16 0, .bool false, .int .u64 0, .int .u64 0, .bool false, .int .u64 0, .int .u64 0, .slice none 0 0]
 replace b2 := b2.alloc (.cells #[.int .u8 (ts : Int), .int .i64 (ln : Int), .int .u16 (id : Int), .bool false, .bool false, .int .i64 0, .int .u8 0, .int .u8 0, .int .u16 0, .bool false, .int .u64 0, .int .u64 0, .bool false, .int .u64 0, .int .u64 0, .slice none 0 0] 99)
 replace be := Below.allocS be (.cells #[.int .u8 (ts : Int), .int .i64 (ln : Int), .int .u16 (id : Int), .bool false, .bool false, .int .i64 0, .int .u8 0, .int .u8 0, .int .u16 0, .bool false, .int .u64 0, .int .u64 0, .bool false, .int .u64 0, .int .u64 0, .slice none 0 0] 99)
 replace hR := hR.later ((Below.refl _ _).alloc (Nat.le_refl _) (.cells #[.int .u8 (ts : Int), .int .i64 (ln : Int), .int .u16 (id : Int), .bool false, .bool false, .int .i64 0, .int .u8 0, .int .u8 0, .int .u16 0, .bool false, .int .u64 0, .int .u64 0, .bool false, .int .u64 0, .int .u64 0, .slice none 0 0] 99))
 have zb := be.size
 generalize W4.alloc (.cells #[.int .u8 (ts : Int), .int .i64 (ln : Int), .int .u16 (id : Int), .bool false, .bool false, .int .i64 0, .int .u8 0, .int .u8 0, .int .u16 0, .bool false, .int .u64 0, .int .u64 0, .bool false, .int .u64 0, .int .u64 0, .slice none 0 0] 99) = V0 at *
 have zg : w.heap.size < W4.heap.size := by omega
 generalize W4.heap.size = g8 at *
 refine (wordG V0 r B 6 pl hR (by omega) (by omega) x4.out).mono ?_
 clear x4
 rintro e W5 ⟨rfl, hR1, hg⟩
 replace b2 := b2.grown hg (by simp; omega)
 replace b8 := b8.grown hg (by simp; omega)
 replace be := below_grown be hg (by omega)
 clear hR hg
 have hR := hR1
 clear hR1
 have y1 : W5.cell? ⟨g8, 1, none⟩ = some (.int .i64 (ln : Int)) := b8.cell 1
 have z8 := b8.lt
 clear zb
 go_wp2_with fail
 refine (HO.out _ _ _ (RdL.litW [.slice A sz c] [l.take sz] (by simp) (.cons ⟨_, _, _, rfl, hts.later be⟩ .nil))).mono ?_
 rintro e w1 ⟨rfl, rfl⟩
 replace b2 := b2.alloc (.cells #[.slice A sz c] 37)
 replace be := Below.allocS be (.cells #[.slice A sz c] 37)
 go_wp2_with (refine at_op (.store 99 (.tmp 2) (.tmp 70)) rfl ?_; refine wpList_stA (t := 99) 99 (.tmp 2) (.tmp 70) rfl rfl (h4C 0 0 0 false false 0 0 0 0 false 0 0 false 0 0 none 0 0) (h4C 0 0 0 false false 0 0 0 0 false 0 0 false 0 0 none 0 0) rfl (h4C_one _ _ _ _ _ _ _ _ _ _ _ _ _ _ _ _ _ _) rfl rfl b2 (szH4 _ _ _ _ _ _ _ _ _ _ _ _ _ _ _ _ _ _) ?_; intro W9 h9 g9)
 refine bodyPost_agg3 Tryz.results64 rfl rfl rfl h9.range u1 u2 (szH4 _ _ _ _ _ _ _ _ _ _ _ _ _ _ _ _ _ _) rfl (RetV.mk ?_)
 exact below_grown be g9 (by omega)
def RetHd (w : World) (ts ln id : Nat) (st mo : Bool) (fo tl pr sm sa da sz : Nat) (o : List UInt8) (e : Ending) (w' : World) : Prop := ∃ A n k bs d, e = .returned (.tuple #[.agg (h4C ts (ln : Int) id st mo (fo : Int) tl pr sm false 0 sa false 0 da A n k).toArray, .int .i64 (sz : Int), .int .i64 0]) ∧ w' = plus w bs d ∧ Ob (plus w bs d) w.heap.size A n k o
theorem RetHd.mk {w w' : World} {ts ln id : Nat} {st mo : Bool} {fo tl pr sm sa da sz : Nat} {o : List UInt8} {A : Option Addr} {n k : Nat} (h : Ob w' w.heap.size A n k o) (hb : Below w.heap.size w w') : RetHd w ts ln id st mo fo tl pr sm sa da sz o (.returned (.tuple #[.agg (h4C ts (ln : Int) id st mo (fo : Int) tl pr sm false 0 sa false 0 da A n k).toArray, .int .i64 (sz : Int), .int .i64 0])) w' := by
 obtain ⟨bs, d, rfl⟩ := plus_of hb
 exact ⟨A, n, k, bs, d, rfl, rfl, h⟩
theorem hdr4_ok (A : Option Addr) (n c : Nat) (l : List UInt8) (w : World) (h : Rb w A n c l) (hm9 : n ≤ 2000000) (f ts ln id pl tl pr sm sa da : Nat) (st mo : Bool) (x0 : num ((l.drop 0).take 1) = f) (x1 : num ((l.drop 1).take 1) = ts) (x2 : num ((l.drop 2).take 2) = ln) (x3 : num ((l.drop 4).take 2) = id) (x4 : num ((l.drop 6).take 2) = pl) (x5 : num ((l.drop 8).take 1) = tl) (x6 : num ((l.drop 9).take 1) = pr) (x7 : num ((l.drop 10).take 2) = sm) (x8 : num ((l.drop 12).take 4) = sa) (x9 : num ((l.drop 16).take 4) = da) (hst : (pl / 16384 % 2 == 1) = st) (hmo : (pl / 8192 % 2 == 1) = mo) (hn : 20 ≤ n) (hb : f / 16 = 4) (hs : 20 ≤ 4 * (f % 16)) (hp9 : pl < 32768) (hl9 : 4 * (f % 16) ≤ ln) (hq0 : 4 * (f % 16) ≤ n) (hq1 : ln ≤ n) (hck : 65535 - fd (tot false (l.take (4 * (f % 16)))) = 0) : Calls Tryz.prog 64 #[.slice A n c] w (RetHd w ts ln id st mo (pl % 8192) tl pr sm sa da (4 * (f % 16)) ((l.drop 20).take (4 * (f % 16) - 20))) := by
 obtain ⟨du, u1, u2⟩ := rowH4
 have hc := h.2.1
 have hl := h.1
 have h20n : (20 : Int) ≤ (n : Int) := by omega
 have h20c : (20 : Int) ≤ (c : Int) := by omega
 have d20 : decide ((n : Int) < 20) = false := by simp only [decide_eq_false_iff_not]; omega
 have ht20 : Rb w A 20 c (l.take 20) := h.take (by omega)
 have hf8 : f < 256 := by rw [← x0]; exact num_lt' l 0 1 256 (by decide)
 have hpl : pl < 65536 := by rw [← x4]; exact num_lt' l 6 2 65536 (by decide)
 have hln : ln < 65536 := by rw [← x2]; exact num_lt' l 2 2 65536 (by decide)
 replace x0 : Hid (num (((l.take 20).drop 0).take 1) = f) := Lib.hid (by rw [num_in l 20 0 1 (by decide)]; exact x0)
 replace x1 : Hid (num (((l.take 20).drop 1).take 1) = ts) := Lib.hid (by rw [num_in l 20 1 1 (by decide)]; exact x1)
 replace x2 : Hid (num (((l.take 20).drop 2).take 2) = ln) := Lib.hid (by rw [num_in l 20 2 2 (by decide)]; exact x2)
 replace x3 : Hid (num (((l.take 20).drop 4).take 2) = id) := Lib.hid (by rw [num_in l 20 4 2 (by decide)]; exact x3)
 replace x4 : Hid (num (((l.take 20).drop 6).take 2) = pl) := Lib.hid (by rw [num_in l 20 6 2 (by decide)]; exact x4)
 replace x5 : Hid (num (((l.take 20).drop 8).take 1) = tl) := Lib.hid (by rw [num_in l 20 8 1 (by decide)]; exact x5)
 replace x6 : Hid (num (((l.take 20).drop 9).take 1) = pr) := Lib.hid (by rw [num_in l 20 9 1 (by decide)]; exact x6)
 replace x7 : Hid (num (((l.take 20).drop 10).take 2) = sm) := Lib.hid (by rw [num_in l 20 10 2 (by decide)]; exact x7)
 replace x8 : Hid (num (((l.take 20).drop 12).take 4) = sa) := Lib.hid (by rw [num_in l 20 12 4 (by decide)]; exact x8)
 replace x9 : Hid (num (((l.take 20).drop 16).take 4) = da) := Lib.hid (by rw [num_in l 20 16 4 (by decide)]; exact x9)
 have hB : (l.take 20).length = 20 := by rw [List.length_take]; omega
 have HR := Lib.hid (fun W (h : Rb W A 20 c (l.take 20)) => readK A 20 c (l.take 20) W h (by decide))
 generalize l.take 20 = B at *
 have hB1 : B.length ≤ 20 := by omega
 have hB2 : 20 ≤ B.length := by omega
 clear hB
 obtain ⟨m, hm⟩ : ∃ m : Nat, m = f % 16 := ⟨_, rfl⟩
 have e1 := u8_and15 f hf8
 rw [← hm] at e1
 obtain ⟨sz, hsz⟩ : ∃ s : Nat, s = 4 * m := ⟨_, rfl⟩
 have e2 : IntKind.i64.wrap (4 * (m : Int)) = (sz : Int) := by rw [IntWalk.i64_in _ (by omega)]; omega
 have e3 : IntKind.i64.wrap (m : Int) = (m : Int) := IntWalk.i64_in _ (by omega)
 have e4 : IntKind.i64.wrap (ln : Int) = (ln : Int) := IntWalk.i64_in _ (by omega)
 have hb1 : (f : Int) / 16 = 4 := by omega
 have hb1n : ((f : Int) / 16 != 4) = false := by rw [hb1]; rfl
 have qd8 : decide ((sz : Int) < 20) = false := by simp only [decide_eq_false_iff_not]; omega
 have qd9 : decide (sz < 20) = false := by simp only [decide_eq_false_iff_not]; omega
 have hp0 : pl / 32768 % 2 = 0 := by omega
 have hp : bits .and .u16 (pl : Int) 32768 = 0 := by rw [and15 pl hpl, hp0]; rfl
 clear hp0
 have qd10 : decide ((ln : Int) < (sz : Int)) = false := by simp only [decide_eq_false_iff_not]; omega
 have qd11 : decide (ln < sz) = false := by simp only [decide_eq_false_iff_not]; omega
 have qd22 : decide ((n : Int) < (sz : Int)) = false := by simp only [decide_eq_false_iff_not]; omega
 have qd23 : decide (n < sz) = false := by simp only [decide_eq_false_iff_not]; omega
 have qd24 : decide ((n : Int) < (ln : Int)) = false := by simp only [decide_eq_false_iff_not]; omega
 have qd25 : decide (n < ln) = false := by simp only [decide_eq_false_iff_not]; omega
 have hszn : sz ≤ n := by omega
 have hln9 : ln ≤ n := by omega
 have hszc : ((sz : Nat) : Int) ≤ (c : Int) := by omega
 have hsz0 : (0 : Int) ≤ (sz : Int) := by omega
 have hts : Rb w A sz c (l.take sz) := h.take hszn
 have hs4 : 4 * (f % 16) = sz := by omega
 have HO := Lib.hid (fun w A1 c1 (h : RdL w A1 1 [l.take sz]) => sumRight A1 1 c1 _ w h (by omega) (by simp; omega))
 have hfl : ([l.take sz] : List (List UInt8)).flatten = l.take sz := by simp
 rw [hfl] at HO
 rw [hs4] at hck
 have hck2 : (65535 - fd (tot false (l.take sz)) == 0) = true := by rw [beq_iff_eq]; exact hck
 rw [hck2] at HO
 have ho0 : Rb w (cutA A c 20 1) (sz - 20) (c - 20) ((l.drop 20).take (sz - 20)) := (h.cut (k := 20) (by omega)).take (by omega)
 have v1 : (bits .and .u16 (pl : Int) 16384 != 0) = st := by rw [← hst, and14 pl hpl]; rcases Nat.mod_two_eq_zero_or_one (pl / 16384) with h0 | h0 <;> simp [h0]
 have v2 : (bits .and .u16 (pl : Int) 8192 != 0) = mo := by rw [← hmo, and13 pl hpl]; rcases Nat.mod_two_eq_zero_or_one (pl / 8192) with h0 | h0 <;> simp [h0]
 have v3 := and8191 pl hpl
 have hfo : pl % 8192 < 65536 := by omega
 generalize pl % 8192 = fo at *
 have v4 : IntKind.i64.wrap (fo : Int) = (fo : Int) := IntWalk.i64_in _ (by omega)
 have hsa : sa < 4294967296 := by rw [← x8.out]; exact num_lt' _ 12 4 4294967296 (by decide)
 have hda : da < 4294967296 := by rw [← x9.out]; exact num_lt' _ 16 4 4294967296 (by decide)
 have v5 : IntKind.u64.wrap (sa : Int) = (sa : Int) := IntWalk.u64_in _ (by omega)
 have v6 : IntKind.u64.wrap (da : Int) = (da : Int) := IntWalk.u64_in _ (by omega)
 have j1 : (20 : Int) ≤ (sz : Int) := by omega
 have HC := Lib.hid (fun w (h : Rb w (cutA A c 20 1) (sz - 20) (c - 20) ((l.drop 20).take (sz - 20))) => clone_any _ _ _ _ w h (by omega))
 have hs9 := Lib.hid hs4
 clear hm hsz hb1 hs4 hck hck2 hfl hst hmo
 have b2 : Bk (w.alloc (.cells #[.int .u8 0, .int .i64 0, .int .u16 0, .bool false, .bool false, .int .i64 0, .int .u8 0, .int .u8 0, .int .u16 0, .bool false, .int .u64 0, .int .u64 0, .bool false, .int .u64 0, .int .u64 0, .slice none 0 0] 99)) w.heap.size 99 (h4C 0 0 0 false false 0 0 0 0 false 0 0 false 0 0 none 0 0) := Bk.new w 99 #[.int .u8 0, .int .i64 0, .int .u16 0, .bool false, .bool false, .int .i64 0, .int .u8 0, .int .u8 0, .int .u16 0, .bool false, .int .u64 0, .int .u64 0, .bool false, .int .u64 0, .int .u64 0, .slice none 0 0]
 have be : Below w.heap.size w (w.alloc (.cells #[.int .u8 0, .int .i64 0, .int .u16 0, .bool false, .bool false, .int .i64 0, .int .u8 0, .int .u8 0, .int .u16 0, .bool false, .int .u64 0, .int .u64 0, .bool false, .int .u64 0, .int .u64 0, .slice none 0 0] 99)) := Below.allocS (Below.refl _ _) _
 go_enter Tryz.func64, Tryz.ntmps64
 go_wp2_with fail
 refine (HR.out _ (ht20.alloc _)).mono ?_
 rintro e w1 ⟨r, bs1, d1, rfl, rfl, hr1, hR⟩
 replace b2 := b2.later (below_plus _ bs1 d1)
 replace be := belowP be bs1 d1
 have hr2 : w.heap.size < r := by simp at hr1; omega
 generalize plus (w.alloc (.cells #[.int .u8 0, .int .i64 0, .int .u16 0, .bool false, .bool false, .int .i64 0, .int .u8 0, .int .u8 0, .int .u16 0, .bool false, .int .u64 0, .int .u64 0, .bool false, .int .u64 0, .int .u64 0, .slice none 0 0] 99)) bs1 d1 = W0 at *
 clear hr1
 go_wp2_with fail
 refine (byteG W0 r B 0 f hR (by omega) (by omega) x0.out).mono ?_
 clear x0
 rintro e W1 ⟨rfl, hR1, hg⟩
 replace b2 := b2.grown hg (by simp; omega)
 replace be := below_grown be hg (by omega)
 clear hR hg
 have hR := hR1
 clear hR1
 go_wp2_with fail
 refine (byteG W1 r B 1 ts hR (by omega) (by omega) x1.out).mono ?_
 clear x1
 rintro e W2 ⟨rfl, hR1, hg⟩
 replace b2 := b2.grown hg (by simp; omega)
 replace be := below_grown be hg (by omega)
 clear hR hg
 have hR := hR1
 clear hR1
 go_wp2_with fail
 refine (wordG W2 r B 2 ln hR (by omega) (by omega) x2.out).mono ?_
 clear x2
 rintro e W3 ⟨rfl, hR1, hg⟩
 replace b2 := b2.grown hg (by simp; omega)
 replace be := below_grown be hg (by omega)
 clear hR hg
 have hR := hR1
 clear hR1
 go_wp2_with fail
 refine (wordG W3 r B 4 id hR (by omega) (by omega) x3.out).mono ?_
 clear x3
 rintro e W4 ⟨rfl, hR1, hg⟩
 replace b2 := b2.grown hg (by simp; omega)
 replace be := below_grown be hg (by omega)
 clear hR hg
 have hR := hR1
 clear hR1
 have zr := hR.lt
 go_wp2_with fail
 have b8 : Bk (W4.alloc (.cells #[.int .u8 (ts : Int), .int .i64 (ln : Int), .int .u16 (id : Int), .bool false, .bool false, .int .i64 0, .int .u8 0, .int .u8 0, .int .u16 0, .bool false, .int .u64 0, .int .u64 0, .bool false, .int .u64 0, .int .u64 0, .slice none 0 0] 99)) W4.heap.size 99 [.int .u8 (ts : Int), .int .i64 (ln : Int), .int .u16 (id : Int), .bool false, .bool false, .int .i64 0, .int .u8 0, .int .u8 0, .int .u16 0, .bool false, .int .u64 0, .int .u64 0, .bool false, .int .u64 0, .int .u64 0, .slice none 0 0] := Bk.new W4 99 #[.int .u8 (ts : Int), .int .i64 (ln : Int), .int .u16 (id : Int), .bool false, .bool false, .int .i64 0, .int .u8 0, .int .u8 0, .int .u16 0, .bool false, .int .u64 0, .int .u64 0, .bool false, .int .u64 0, .int .u64 0, .slice none 0 0]
 replace b2 := b2.alloc (.cells #[.int .u8 (ts : Int), .int .i64 (ln : Int), .int .u16 (id : Int), .bool false, .bool false, .int .i64 0, .int .u8 0, .int .u8 0, .int .u16 0, .bool false, .int .u64 0, .int .u64 0, .bool false, .int .u64 0, .int .u64 0, .slice none 0 0] 99)
 replace be := Below.allocS be (.cells #[.int .u8 (ts : Int), .int .i64 (ln : Int), .int .u16 (id : Int), .bool false, .bool false, .int .i64 0, .int .u8 0, .int .u8 0, .int .u16 0, .bool false, .int .u64 0, .int .u64 0, .bool false, .int .u64 0, .int .u64 0, .slice none 0 0] 99)
 replace hR := hR.later ((Below.refl _ _).alloc (Nat.le_refl _) (.cells #[.int .u8 (ts : Int), .int .i64 (ln : Int), .int .u16 (id : Int), .bool false, .bool false, .int .i64 0, .int .u8 0, .int .u8 0, .int .u16 0, .bool false, .int .u64 0, .int .u64 0, .bool false, .int .u64 0, .int .u64 0, .slice none 0 0] 99))
 have zb := be.size
 generalize W4.alloc (.cells #[.int .u8 (ts : Int), .int .i64 (ln : Int), .int .u16 (id : Int), .bool false, .bool false, .int .i64 0, .int .u8 0, .int .u8 0, .int .u16 0, .bool false, .int .u64 0, .int .u64 0, .bool false, .int .u64 0, .int .u64 0, .slice none 0 0] 99) = V0 at *
 have zg : w.heap.size < W4.heap.size := by omega
 generalize W4.heap.size = g8 at *
 refine (wordG V0 r B 6 pl hR (by omega) (by omega) x4.out).mono ?_
 clear x4
 rintro e W5 ⟨rfl, hR1, hg⟩
 replace b2 := b2.grown hg (by simp; omega)
 replace b8 := b8.grown hg (by simp; omega)
 replace be := below_grown be hg (by omega)
 clear hR hg
 have hR := hR1
 clear hR1
 have y1 : W5.cell? ⟨g8, 1, none⟩ = some (.int .i64 (ln : Int)) := b8.cell 1
 have z8 := b8.lt
 clear zb
 go_wp2_with fail
 refine (HO.out _ _ _ (RdL.litW [.slice A sz c] [l.take sz] (by simp) (.cons ⟨_, _, _, rfl, hts.later be⟩ .nil))).mono ?_
 rintro e w1 ⟨rfl, rfl⟩
 replace b2 := b2.alloc (.cells #[.slice A sz c] 37)
 replace b8 := b8.alloc (.cells #[.slice A sz c] 37)
 replace hR := hR.later ((Below.refl _ _).alloc (Nat.le_refl _) (.cells #[.slice A sz c] 37))
 replace be := Below.allocS be (.cells #[.slice A sz c] 37)
 clear y1 z8
 generalize W5.alloc (.cells #[.slice A sz c] 37) = V1 at *
 have q := b8.cell 3
 have fr := b8.frozen 3
 have z8 := b8.lt
 simp only [List.getElem?_cons_succ, List.getElem?_cons_zero] at q
 go_upto_region 15 with (fail)
 replace b8 := b8.set_ 3 (.bool st)
 replace b2 := b2.far (p := ⟨g8, 3, none⟩) (by simp; omega) (.bool st)
 replace hR := hR.far (p := ⟨g8, 3, none⟩) (by simp; omega) (.bool st)
 replace be := be.setCell (p := ⟨g8, 3, none⟩) (by simp; omega) (.bool st)
 simp only [List.set_cons_succ, List.set_cons_zero] at b8
 clear q fr z8
 generalize V1.setCell ⟨g8, 3, none⟩ (.bool st) = W6 at *
 have q := b8.cell 4
 have fr := b8.frozen 4
 have z8 := b8.lt
 simp only [List.getElem?_cons_succ, List.getElem?_cons_zero] at q
 go_upto_region 16 with (fail)
 replace b8 := b8.set_ 4 (.bool mo)
 replace b2 := b2.far (p := ⟨g8, 4, none⟩) (by simp; omega) (.bool mo)
 replace hR := hR.far (p := ⟨g8, 4, none⟩) (by simp; omega) (.bool mo)
 replace be := be.setCell (p := ⟨g8, 4, none⟩) (by simp; omega) (.bool mo)
 simp only [List.set_cons_succ, List.set_cons_zero] at b8
 clear q fr z8
 generalize W6.setCell ⟨g8, 4, none⟩ (.bool mo) = W7 at *
 have q := b8.cell 5
 have fr := b8.frozen 5
 have z8 := b8.lt
 simp only [List.getElem?_cons_succ, List.getElem?_cons_zero] at q
 go_upto_region 17 with (fail)
 replace b8 := b8.set_ 5 (.int .i64 (fo : Int))
 replace b2 := b2.far (p := ⟨g8, 5, none⟩) (by simp; omega) (.int .i64 (fo : Int))
 replace hR := hR.far (p := ⟨g8, 5, none⟩) (by simp; omega) (.int .i64 (fo : Int))
 replace be := be.setCell (p := ⟨g8, 5, none⟩) (by simp; omega) (.int .i64 (fo : Int))
 simp only [List.set_cons_succ, List.set_cons_zero] at b8
 clear q fr z8
 generalize W7.setCell ⟨g8, 5, none⟩ (.int .i64 (fo : Int)) = W8 at *
 go_wp2_with fail
 refine (byteG W8 r B 8 tl hR (by omega) (by omega) x5.out).mono ?_
 clear x5
 rintro e W9 ⟨rfl, hR1, hg⟩
 replace b2 := b2.grown hg (by simp; omega)
 replace b8 := b8.grown hg (by simp; omega)
 replace be := below_grown be hg (by omega)
 clear hR hg
 have hR := hR1
 clear hR1
 have q := b8.cell 6
 have fr := b8.frozen 6
 have z8 := b8.lt
 simp only [List.getElem?_cons_succ, List.getElem?_cons_zero] at q
 go_upto_region 18 with (fail)
 replace b8 := b8.set_ 6 (.int .u8 (tl : Int))
 replace b2 := b2.far (p := ⟨g8, 6, none⟩) (by simp; omega) (.int .u8 (tl : Int))
 replace hR := hR.far (p := ⟨g8, 6, none⟩) (by simp; omega) (.int .u8 (tl : Int))
 replace be := be.setCell (p := ⟨g8, 6, none⟩) (by simp; omega) (.int .u8 (tl : Int))
 simp only [List.set_cons_succ, List.set_cons_zero] at b8
 clear q fr z8
 generalize W9.setCell ⟨g8, 6, none⟩ (.int .u8 (tl : Int)) = W10 at *
 go_wp2_with fail
 refine (byteG W10 r B 9 pr hR (by omega) (by omega) x6.out).mono ?_
 clear x6
 rintro e W11 ⟨rfl, hR1, hg⟩
 replace b2 := b2.grown hg (by simp; omega)
 replace b8 := b8.grown hg (by simp; omega)
 replace be := below_grown be hg (by omega)
 clear hR hg
 have hR := hR1
 clear hR1
 have q := b8.cell 7
 have fr := b8.frozen 7
 have z8 := b8.lt
 simp only [List.getElem?_cons_succ, List.getElem?_cons_zero] at q
 go_upto_region 19 with (fail)
 replace b8 := b8.set_ 7 (.int .u8 (pr : Int))
 replace b2 := b2.far (p := ⟨g8, 7, none⟩) (by simp; omega) (.int .u8 (pr : Int))
 replace hR := hR.far (p := ⟨g8, 7, none⟩) (by simp; omega) (.int .u8 (pr : Int))
 replace be := be.setCell (p := ⟨g8, 7, none⟩) (by simp; omega) (.int .u8 (pr : Int))
 simp only [List.set_cons_succ, List.set_cons_zero] at b8
 clear q fr z8
 generalize W11.setCell ⟨g8, 7, none⟩ (.int .u8 (pr : Int)) = W12 at *
 go_wp2_with fail
 refine (wordG W12 r B 10 sm hR (by omega) (by omega) x7.out).mono ?_
 clear x7
 rintro e W13 ⟨rfl, hR1, hg⟩
 replace b2 := b2.grown hg (by simp; omega)
 replace b8 := b8.grown hg (by simp; omega)
 replace be := below_grown be hg (by omega)
 clear hR hg
 have hR := hR1
 clear hR1
 have q := b8.cell 8
 have fr := b8.frozen 8
 have z8 := b8.lt
 simp only [List.getElem?_cons_succ, List.getElem?_cons_zero] at q
 go_upto_region 20 with (fail)
 replace b8 := b8.set_ 8 (.int .u16 (sm : Int))
 replace b2 := b2.far (p := ⟨g8, 8, none⟩) (by simp; omega) (.int .u16 (sm : Int))
 replace hR := hR.far (p := ⟨g8, 8, none⟩) (by simp; omega) (.int .u16 (sm : Int))
 replace be := be.setCell (p := ⟨g8, 8, none⟩) (by simp; omega) (.int .u16 (sm : Int))
 simp only [List.set_cons_succ, List.set_cons_zero] at b8
 clear q fr z8
 generalize W13.setCell ⟨g8, 8, none⟩ (.int .u16 (sm : Int)) = W14 at *
 go_wp2_with fail
 refine (longG W14 r B 12 sa hR (by omega) (by omega) x8.out).mono ?_
 clear x8
 rintro e W15 ⟨rfl, hR1, hg⟩
 replace b2 := b2.grown hg (by simp; omega)
 replace b8 := b8.grown hg (by simp; omega)
 replace be := below_grown be hg (by omega)
 clear hR hg
 have hR := hR1
 clear hR1
 have z8 := b8.lt
 have zr := hR.lt
 go_upto_region 21 with (refine at_op (.store 24 (.tmp 96) (.tmp 95)) rfl ?_; refine wpList_stM (t := 99) 24 (.tmp 96) (.tmp 95) rfl rfl (adC false 0 sa) _ (by simp [adC]) (adC_one _ _ _) rfl rfl b8 (szAd _ _ _) ?_; intro W16 b8' hg3)
 simp only [splice, adC, List.take_succ_cons, List.take_zero, List.drop_succ_cons, List.drop_zero, List.length_cons, List.length_nil, Nat.zero_add, Nat.reduceAdd, List.cons_append, List.nil_append] at b8'
 replace b2 := b2.grown hg3 (by simp; omega)
 replace hR := hR.far_ hg3 (by omega)
 replace be := below_grown be hg3 (by omega)
 clear b8 hg3 z8 zr
 have b8 := b8'
 clear b8'
 go_wp2_with fail
 refine (longG W16 r B 16 da hR (by omega) (by omega) x9.out).mono ?_
 clear x9
 rintro e W17 ⟨rfl, hR1, hg⟩
 replace b2 := b2.grown hg (by simp; omega)
 replace b8 := b8.grown hg (by simp; omega)
 replace be := below_grown be hg (by omega)
 clear hR hg
 have hR := hR1
 clear hR1
 have z8 := b8.lt
 have zr := hR.lt
 go_upto_region 22 with (refine at_op (.store 24 (.tmp 101) (.tmp 100)) rfl ?_; refine wpList_stM (t := 99) 24 (.tmp 101) (.tmp 100) rfl rfl (adC false 0 da) _ (by simp [adC]) (adC_one _ _ _) rfl rfl b8 (szAd _ _ _) ?_; intro W18 b8' hg3)
 simp only [splice, adC, List.take_succ_cons, List.take_zero, List.drop_succ_cons, List.drop_zero, List.length_cons, List.length_nil, Nat.zero_add, Nat.reduceAdd, List.cons_append, List.nil_append] at b8'
 replace b2 := b2.grown hg3 (by simp; omega)
 replace hR := hR.far_ hg3 (by omega)
 replace be := below_grown be hg3 (by omega)
 clear b8 hg3 z8 zr
 have b8 := b8'
 clear b8'
 go_wp2_with fail
 refine (HC.out _ (ho0.later be)).mono ?_
 rintro e w1 ⟨Ao, no, ko, bso, mo9, rfl, rfl, hoo⟩
 have z8 := b8.lt
 have z2 := b2.lt
 have zo8 : ∀ b, (Value.slice Ao no ko).ownBlock = some b → b ≠ g8 := fun b hb => by have := (hoo.blk b hb).1; omega
 have zo2 : ∀ b, (Value.slice Ao no ko).ownBlock = some b → b ≠ w.heap.size := fun b hb => by have := (hoo.blk b hb).1; omega
 clear z8 z2
 replace b2 := b2.later (below_plus _ bso mo9)
 replace b8 := b8.later (below_plus _ bso mo9)
 replace hR := hR.later (below_plus _ bso mo9)
 have zbe := be.size
 replace be := belowP be bso mo9
 replace hoo := hoo.mono (base' := w.heap.size) zbe
 generalize plus W18 bso mo9 = V2 at *
 have q := b8.cell 15
 have fr := b8.frozen 15
 have z8 := b8.lt
 simp only [List.getElem?_cons_succ, List.getElem?_cons_zero] at q
 go_upto_region 23 with (fail)
 replace b8 := b8.set_ 15 (.slice Ao no ko)
 replace b2 := b2.far (p := ⟨g8, 15, none⟩) (by simp; omega) (.slice Ao no ko)
 replace hR := hR.far (p := ⟨g8, 15, none⟩) (by simp; omega) (.slice Ao no ko)
 replace be := be.setCell (p := ⟨g8, 15, none⟩) (by simp; omega) (.slice Ao no ko)
 simp only [List.set_cons_succ, List.set_cons_zero] at b8
 clear q fr z8
 replace hoo := hoo.grown (grownBy_setCell V2 g8 15 (.slice Ao no ko)) (fun b hb e => zo8 b hb (by injection e with e; exact e.symm))
 generalize V2.setCell ⟨g8, 15, none⟩ (.slice Ao no ko) = W19 at *
 go_wp2_with (first
  | (refine at_op (.load 99 (.tmp 8)) rfl ?_; refine wpList_ldA (t := 99) 99 (.tmp 8) rfl rfl (h4C ts (ln : Int) id st mo (fo : Int) tl pr sm false 0 sa false 0 da Ao no ko) rfl (b8) (whole_ _) u1 u2 (szH4 _ _ _ _ _ _ _ _ _ _ _ _ _ _ _ _ _ _) ?_)
  | (refine at_op (.store 99 (.tmp 2) (.tmp 107)) rfl ?_; refine wpList_stA (t := 99) 99 (.tmp 2) (.tmp 107) rfl rfl (h4C ts (ln : Int) id st mo (fo : Int) tl pr sm false 0 sa false 0 da Ao no ko) (h4C 0 0 0 false false 0 0 0 0 false 0 0 false 0 0 none 0 0) rfl (h4C_one _ _ _ _ _ _ _ _ _ _ _ _ _ _ _ _ _ _) rfl rfl b2 (szH4 _ _ _ _ _ _ _ _ _ _ _ _ _ _ _ _ _ _) ?_; intro W9 h9 g9))
 replace hoo := hoo.grown g9 (fun b hb e => zo2 b hb (by injection e with e; exact e.symm))
 rw [hs9.out]
 refine bodyPost_agg3 Tryz.results64 rfl rfl rfl h9.range u1 u2 (szH4 _ _ _ _ _ _ _ _ _ _ _ _ _ _ _ _ _ _) rfl (RetHd.mk hoo ?_)
 exact below_grown be g9 (by omega)
end

section
open Go.RowKit
attribute [local go_sem ↓] sliced_cut
attribute [local go_sem] cutA_zero
def RetP4 (w : World) (ts ln id : Nat) (st mo : Bool) (fo tl pr sm sa da : Nat) (o load : List UInt8) (e : Ending) (w' : World) : Prop := ∃ A n k A2 n2 k2 bs d, e = .returned (.tuple #[.agg (h4C ts (ln : Int) id st mo (fo : Int) tl pr sm false 0 sa false 0 da A n k).toArray, .slice A2 n2 k2, .int .i64 0]) ∧ w' = plus w bs d ∧ Rb (plus w bs d) A n k o ∧ Rb (plus w bs d) A2 n2 k2 load ∧ ∀ a, A2 = some a → w.heap.size ≤ a.block
theorem Ob.fresh {w : World} {w0 base : Nat} {A : Option Addr} {n c : Nat} {l : List UInt8} (h : Ob w base A n c l) (hb : w0 ≤ base) : ∀ a, A = some a → w0 ≤ a.block := fun a ha => by
 subst ha
 have := (h.blk a.block rfl).1
 omega
theorem RetP4.mk {w w' : World} {ts ln id : Nat} {st mo : Bool} {fo tl pr sm sa da : Nat} {o load : List UInt8} {A : Option Addr} {n k : Nat} {A2 : Option Addr} {n2 k2 : Nat} (h : Rb w' A n k o) (h2 : Rb w' A2 n2 k2 load) (hf : ∀ a, A2 = some a → w.heap.size ≤ a.block) (hb : Below w.heap.size w w') : RetP4 w ts ln id st mo fo tl pr sm sa da o load (.returned (.tuple #[.agg (h4C ts (ln : Int) id st mo (fo : Int) tl pr sm false 0 sa false 0 da A n k).toArray, .slice A2 n2 k2, .int .i64 0])) w' := by
 obtain ⟨bs, d, rfl⟩ := plus_of hb
 exact ⟨A, n, k, A2, n2, k2, bs, d, rfl, rfl, h, h2, hf⟩
set_option maxHeartbeats 4000000
set_option maxRecDepth 100000
theorem parse4_err (A : Option Addr) (n c : Nat) (E : Int) (w : World) (hE : (E != 0) = true) (HH : ∀ w', Below w.heap.size w w' → Calls Tryz.prog 64 #[.slice A n c] w' (RetV w' (.tuple #[.agg (h4C 0 0 0 false false 0 0 0 0 false 0 0 false 0 0 none 0 0).toArray, .int .i64 0, .int .i64 E]))) : Calls Tryz.prog 42 #[.slice A n c] w (RetV w (.tuple #[.agg (h4C 0 0 0 false false 0 0 0 0 false 0 0 false 0 0 none 0 0).toArray, .slice none 0 0, .int .i64 E])) := by
 obtain ⟨du, u1, u2⟩ := rowH4
 replace HH := Lib.hid HH
 have b2 : Bk (w.alloc (.cells #[.int .u8 0, .int .i64 0, .int .u16 0, .bool false, .bool false, .int .i64 0, .int .u8 0, .int .u8 0, .int .u16 0, .bool false, .int .u64 0, .int .u64 0, .bool false, .int .u64 0, .int .u64 0, .slice none 0 0] 99)) w.heap.size 99 (h4C 0 0 0 false false 0 0 0 0 false 0 0 false 0 0 none 0 0) := Bk.new w 99 #[.int .u8 0, .int .i64 0, .int .u16 0, .bool false, .bool false, .int .i64 0, .int .u8 0, .int .u8 0, .int .u16 0, .bool false, .int .u64 0, .int .u64 0, .bool false, .int .u64 0, .int .u64 0, .slice none 0 0]
 have be : Below w.heap.size w (w.alloc (.cells #[.int .u8 0, .int .i64 0, .int .u16 0, .bool false, .bool false, .int .i64 0, .int .u8 0, .int .u8 0, .int .u16 0, .bool false, .int .u64 0, .int .u64 0, .bool false, .int .u64 0, .int .u64 0, .slice none 0 0] 99)) := Below.allocS (Below.refl _ _) _
 go_enter Tryz.func42, Tryz.ntmps42
 go_wp2_with fail
 refine (HH.out _ be).mono ?_
 rintro e w1 ⟨bs1, d1, rfl, rfl⟩
 go_upto_region 2 with (refine at_op (.store 99 (.tmp 5) (.tmp 11)) rfl ?_; refine wpList_stA (t := 99) 99 (.tmp 5) (.tmp 11) rfl rfl (h4C 0 0 0 false false 0 0 0 0 false 0 0 false 0 0 none 0 0) (h4C 0 0 0 false false 0 0 0 0 false 0 0 false 0 0 none 0 0) rfl (h4C_one _ _ _ _ _ _ _ _ _ _ _ _ _ _ _ _ _ _) rfl rfl ?_ (szH4 _ _ _ _ _ _ _ _ _ _ _ _ _ _ _ _ _ _) ?_; (· refine Bk.newK _ _ _ ?_ rfl; simp [size_plus]); intro W b5 hgr)
 have zb := be.size
 replace b2 := ((b2.later (below_plus _ bs1 d1)).alloc _).grown hgr (by simp; omega)
 replace be := below_grown (Below.allocS (belowP be bs1 d1) _) hgr (by omega)
 clear hgr zb
 go_wp2_with (refine at_op (.store 99 (.tmp 2) (.tmp 16)) rfl ?_; refine wpList_stA (t := 99) 99 (.tmp 2) (.tmp 16) rfl rfl (h4C 0 0 0 false false 0 0 0 0 false 0 0 false 0 0 none 0 0) (h4C 0 0 0 false false 0 0 0 0 false 0 0 false 0 0 none 0 0) rfl (h4C_one _ _ _ _ _ _ _ _ _ _ _ _ _ _ _ _ _ _) rfl rfl b2 (szH4 _ _ _ _ _ _ _ _ _ _ _ _ _ _ _ _ _ _) ?_; intro W9 h9 g9)
 refine bodyPost_agg3 Tryz.results42 rfl rfl rfl h9.range u1 u2 (szH4 _ _ _ _ _ _ _ _ _ _ _ _ _ _ _ _ _ _) rfl (RetV.mk ?_)
 exact below_grown be g9 (by omega)
theorem parse4_ok (A : Option Addr) (n c : Nat) (l : List UInt8) (ts ln id : Nat) (st mo : Bool) (fo tl pr sm sa da sz : Nat) (o : List UInt8) (w : World) (h : Rb w A n c l) (hm : n ≤ 2000000) (h1 : 20 ≤ sz) (h2 : sz ≤ ln) (h3 : ln ≤ n)
  (HH : ∀ w', Below w.heap.size w w' → Calls Tryz.prog 64 #[.slice A n c] w' (RetHd w' ts ln id st mo fo tl pr sm sa da sz o)) : Calls Tryz.prog 42 #[.slice A n c] w (RetP4 w ts ln id st mo fo tl pr sm sa da o ((l.drop sz).take (ln - sz))) := by
 obtain ⟨du, u1, u2⟩ := rowH4
 replace HH := Lib.hid HH
 obtain ⟨b, off, rfl, hbl, hcell⟩ := h.2.2.at_ (by rw [bcs_length, h.1]; omega)
 have hc := h.2.1
 have hr0 : Rb w (cutA (some ⟨b, off, none⟩) c sz 1) (ln - sz) (c - sz) ((l.drop sz).take (ln - sz)) := (h.cut (k := sz) (by omega)).take (by omega)
 have j0 : (0 : Int) ≤ (sz : Int) := by omega
 have j1 : (sz : Int) ≤ (ln : Int) := by omega
 have j2 : (ln : Int) ≤ (c : Int) := by omega
 clear hcell
 generalize (l.drop sz).take (ln - sz) = load at *
 have b2 : Bk (w.alloc (.cells #[.int .u8 0, .int .i64 0, .int .u16 0, .bool false, .bool false, .int .i64 0, .int .u8 0, .int .u8 0, .int .u16 0, .bool false, .int .u64 0, .int .u64 0, .bool false, .int .u64 0, .int .u64 0, .slice none 0 0] 99)) w.heap.size 99 (h4C 0 0 0 false false 0 0 0 0 false 0 0 false 0 0 none 0 0) := Bk.new w 99 #[.int .u8 0, .int .i64 0, .int .u16 0, .bool false, .bool false, .int .i64 0, .int .u8 0, .int .u8 0, .int .u16 0, .bool false, .int .u64 0, .int .u64 0, .bool false, .int .u64 0, .int .u64 0, .slice none 0 0]
 have be : Below w.heap.size w (w.alloc (.cells #[.int .u8 0, .int .i64 0, .int .u16 0, .bool false, .bool false, .int .i64 0, .int .u8 0, .int .u8 0, .int .u16 0, .bool false, .int .u64 0, .int .u64 0, .bool false, .int .u64 0, .int .u64 0, .slice none 0 0] 99)) := Below.allocS (Below.refl _ _) _
 go_enter Tryz.func42, Tryz.ntmps42
 go_wp2_with fail
 refine (HH.out _ be).mono ?_
 rintro e w1 ⟨Ao, no, ko, bs1, d1, rfl, rfl, hoo⟩
 have zo : ∀ a, Ao = some a → ¬ (fun b => b = w.heap.size) a.block := fun a ha hb => by
  subst ha
  have := (hoo.blk a.block rfl).1
  have hb' : a.block = w.heap.size := hb
  simp at this
  omega
 go_upto_region 2 with (refine at_op (.store 99 (.tmp 5) (.tmp 11)) rfl ?_; refine wpList_stA (t := 99) 99 (.tmp 5) (.tmp 11) rfl rfl (h4C ts (ln : Int) id st mo (fo : Int) tl pr sm false 0 sa false 0 da Ao no ko) (h4C 0 0 0 false false 0 0 0 0 false 0 0 false 0 0 none 0 0) rfl (h4C_one _ _ _ _ _ _ _ _ _ _ _ _ _ _ _ _ _ _) rfl rfl ?_ (szH4 _ _ _ _ _ _ _ _ _ _ _ _ _ _ _ _ _ _) ?_; (· refine Bk.newK _ _ _ ?_ rfl; simp [size_plus]); intro W b5 hgr)
 have zb := be.size
 replace b2 := ((b2.later (below_plus _ bs1 d1)).alloc _).grown hgr (by simp; omega)
 have hro := hoo.rb.later (below_grown (Below.allocS (Below.refl _ _) _) hgr (by simp [size_plus]))
 replace be := below_grown (Below.allocS (belowP be bs1 d1) _) hgr (by omega)
 have hr := hr0.later be
 have hg5 : w.heap.size < w.heap.size + 1 + bs1.length := by omega
 generalize w.heap.size + 1 + bs1.length = g5 at *
 have hDb : ∀ b, (fun b => b = w.heap.size) b → b < W.heap.size := fun b hb => by subst hb; exact b2.lt
 have hrd : ∀ a, cutA (some ⟨b, off, none⟩) c sz 1 = some a → ¬ (fun b => b = w.heap.size) a.block := fun a ha hb => by
  have : a.block = b := by
   unfold cutA at ha
   split at ha
   ·injection ha with ha; subst ha; rfl
   ·simp [add_plain] at ha; subst ha; rfl
  have hb' : a.block = w.heap.size := hb
  omega
 clear hgr zb h hoo
 go_wp2
 refine wp_su (fun b => b = w.heap.size) 10 25 2 [7] rfl (by kernel_rfl) (by kernel_rfl) (fun i => match i with | 0 => MC.eq (.agg (h4C ts (ln : Int) id st mo (fo : Int) tl pr sm false 0 sa false 0 da Ao no ko).toArray) | 1 => MC.eq (.slice (some ⟨b, off, none⟩) n c) | 2 => MC.eq (.int .i64 (sz : Int)) | 3 => MC.eq (.pointer (some ⟨g5, 1, none⟩)) | 4 => MC.eq (.int .i64 (ln : Int)) | 5 => MC.eq (.slice (cutA (some ⟨b, off, none⟩) c sz 1) (ln - sz) (c - sz)) | 6 => MC.ob W.heap.size hDb load | 7 => MC.any | 8 => MC.ob W.heap.size hDb load | 9 => MC.eq (.int .i64 0) | _ => MC.any) (fun k w' => Bk w' w.heap.size 99 (if k = 0 then h4C 0 0 0 false false 0 0 0 0 false 0 0 false 0 0 none 0 0 else h4C ts (ln : Int) id st mo (fo : Int) tl pr sm false 0 sa false 0 da Ao no ko)) ?_ ?_ ?_ ?_ ?_
 ·exact fun k w w' h h' => h.later h'.below
 ·exact b2
 ·intro i hi o ho hq FA w' hC hO hD K hK
  match i, hi, ho, hq, hO, hD, hK with
  | 0, _, ho, hq, hO, hD, hK => 
   obtain rfl := qoi ho
   clear ho hq
   have ev5 : FA.eval (.tmp 5) = .pointer (some ⟨g5, 0, none⟩) := hO 5 (by kernel_rfl)
   have e5 : FA.tmps[5]?.getD undef = .pointer (some ⟨g5, 0, none⟩) := by simpa [Act.eval] using ev5
   replace ev5 := Lib.hid ev5
   clear hO hD
   refine wanted_if rfl ?_
   refine wp_load_mid 99 (.tmp 5) rfl g5 0 ev5.out (h4C ts (ln : Int) id st mo (fo : Int) tl pr sm false 0 sa false 0 da Ao no ko) _ (Bk.range (b5.chg hC (by omega))) u1 u2 (szH4 _ _ _ _ _ _ _ _ _ _ _ _ _ _ _ _ _ _) ?_
   exact hK.out _ _ (Ex.refl _) rfl
  | 1, _, ho, hq, hO, hD, hK => 
   obtain rfl := qoi ho
   clear ho hq
   have ev0 : FA.eval (.tmp 0) = .slice (some ⟨b, off, none⟩) n c := hO 0 (by kernel_rfl)
   have e0 : FA.tmps[0]?.getD undef = .slice (some ⟨b, off, none⟩) n c := by simpa [Act.eval] using ev0
   replace ev0 := Lib.hid ev0
   clear hO hD
   go_simp
   exact hK.out _ _ (Ex.refl _) rfl
  | 2, _, ho, hq, hO, hD, hK => 
   obtain rfl := qoi ho
   clear ho hq
   have ev6 : FA.eval (.tmp 6) = .int .i64 (sz : Int) := hO 6 (by kernel_rfl)
   have e6 : FA.tmps[6]?.getD undef = .int .i64 (sz : Int) := by simpa [Act.eval] using ev6
   replace ev6 := Lib.hid ev6
   clear hO hD
   go_simp
   exact hK.out _ _ (Ex.refl _) rfl
  | 3, _, ho, hq, hO, hD, hK => 
   obtain rfl := qoi ho
   clear ho hq
   have ev5 : FA.eval (.tmp 5) = .pointer (some ⟨g5, 0, none⟩) := hO 5 (by kernel_rfl)
   have e5 : FA.tmps[5]?.getD undef = .pointer (some ⟨g5, 0, none⟩) := by simpa [Act.eval] using ev5
   replace ev5 := Lib.hid ev5
   clear hO hD
   go_simp
   exact hK.out _ _ (Ex.refl _) rfl
  | 4, _, ho, hq, hO, hD, hK => 
   obtain rfl := qoi ho
   clear ho hq
   have ev21 : FA.eval (.tmp 21) = .pointer (some ⟨g5, 1, none⟩) := hD 3 21 (by kernel_rfl)
   have e21 : FA.tmps[21]?.getD undef = .pointer (some ⟨g5, 1, none⟩) := by simpa [Act.eval] using ev21
   replace ev21 := Lib.hid ev21
   clear hO hD
   have cc : w'.cell? ⟨g5, 1, none⟩ = some (.int .i64 (ln : Int)) := (b5.chg hC (by omega)).cell 1
   go_simp
   exact hK.out _ _ (Ex.refl _) rfl
  | 5, _, ho, hq, hO, hD, hK => 
   obtain rfl := qoi ho
   clear ho hq
   have ev19 : FA.eval (.tmp 19) = .slice (some ⟨b, off, none⟩) n c := hD 1 19 (by kernel_rfl)
   have e19 : FA.tmps[19]?.getD undef = .slice (some ⟨b, off, none⟩) n c := by simpa [Act.eval] using ev19
   replace ev19 := Lib.hid ev19
   have ev20 : FA.eval (.tmp 20) = .int .i64 (sz : Int) := hD 2 20 (by kernel_rfl)
   have e20 : FA.tmps[20]?.getD undef = .int .i64 (sz : Int) := by simpa [Act.eval] using ev20
   replace ev20 := Lib.hid ev20
   have ev22 : FA.eval (.tmp 22) = .int .i64 (ln : Int) := hD 4 22 (by kernel_rfl)
   have e22 : FA.tmps[22]?.getD undef = .int .i64 (ln : Int) := by simpa [Act.eval] using ev22
   replace ev22 := Lib.hid ev22
   clear hO hD
   go_simp
   exact hK.out _ _ (Ex.refl _) rfl
  | 6, _, ho, hq, hO, hD, hK => 
   obtain rfl := qoi ho
   clear ho hq
   have ev23 : FA.eval (.tmp 23) = .slice (cutA (some ⟨b, off, none⟩) c sz 1) (ln - sz) (c - sz) := hD 5 23 (by kernel_rfl)
   have e23 : FA.tmps[23]?.getD undef = .slice (cutA (some ⟨b, off, none⟩) c sz 1) (ln - sz) (c - sz) := by simpa [Act.eval] using ev23
   replace ev23 := Lib.hid ev23
   clear hO hD
   go_simp
   refine (clone_any _ _ _ load _ (hr.chg hC hrd) (by omega)).mono ?_
   rintro e w1 ⟨A2, n2, c2, bs2, d2, rfl, rfl, ho2⟩
   exact hK.out _ _ (Ex.plus_ _ _ _) ⟨_, _, _, rfl, ho2.mono hC.size⟩
  | 7, _, _, hq, _, _, _ => exact absurd hq (by decide)
  | 8, _, ho, hq, hO, hD, hK => 
   obtain rfl := qoi ho
   clear ho hq
   have f24 := hD 6 24 (by kernel_rfl)
   generalize eu24 : FA.eval (.tmp 24) = u24 at f24
   have e24 : FA.tmps[24]?.getD undef = u24 := by rw [← eu24]; simp [Act.eval]
   have ev24 := Lib.hid eu24
   clear eu24
   clear hO hD
   go_simp
   exact hK.out _ _ (Ex.refl _) f24
  | 9, _, ho, hq, hO, hD, hK => 
   obtain rfl := qoi ho
   clear ho hq
   clear hO hD
   go_simp
   exact hK.out _ _ (Ex.refl _) rfl
  | (k + 10), hi, _, _, _, _, _ => exact absurd hi (by omega)
 ·intro k i hk o ho FA w' hC hS hO hD K hK
  match k, hk, hS, hK with
  | 0, hk, hS, hK => 
   obtain rfl : 7 = i := Option.some.inj hk
   obtain rfl := qoi ho
   clear ho hk
   have ev2 : FA.eval (.tmp 2) = .pointer (some ⟨w.heap.size, 0, none⟩) := hO 2 (by kernel_rfl)
   have e2 : FA.tmps[2]?.getD undef = .pointer (some ⟨w.heap.size, 0, none⟩) := by simpa [Act.eval] using ev2
   replace ev2 := Lib.hid ev2
   have ev18 : FA.eval (.tmp 18) = .agg (h4C ts (ln : Int) id st mo (fo : Int) tl pr sm false 0 sa false 0 da Ao no ko).toArray := hD 0 18 (by kernel_rfl)
   have e18 : FA.tmps[18]?.getD undef = .agg (h4C ts (ln : Int) id st mo (fo : Int) tl pr sm false 0 sa false 0 da Ao no ko).toArray := by simpa [Act.eval] using ev18
   replace ev18 := Lib.hid ev18
   clear hO hD
   refine wanted_if rfl ?_
   refine wp_stA 99 (.tmp 2) (.tmp 18) rfl (h4C ts (ln : Int) id st mo (fo : Int) tl pr sm false 0 sa false 0 da Ao no ko) (h4C 0 0 0 false false 0 0 0 0 false 0 0 false 0 0 none 0 0) rfl (h4C_one _ _ _ _ _ _ _ _ _ _ _ _ _ _ _ _ _ _) ev2.out ev18.out hS (szH4 _ _ _ _ _ _ _ _ _ _ _ _ _ _ _ _ _ _) ?_
   intro w'' hn hg
   exact hK.out _ _ (Chg.one hg rfl) hn trivial
  | (k + 1), hk, _, _ => simp at hk
 intro vs w' hC hS hp
 have p0 : vs 0 = .agg (h4C ts (ln : Int) id st mo (fo : Int) tl pr sm false 0 sa false 0 da Ao no ko).toArray := hp 0 (by omega) rfl
 have p1 : vs 1 = .slice (some ⟨b, off, none⟩) n c := hp 1 (by omega) rfl
 have p2 : vs 2 = .int .i64 (sz : Int) := hp 2 (by omega) rfl
 have p3 : vs 3 = .pointer (some ⟨g5, 1, none⟩) := hp 3 (by omega) rfl
 have p4 : vs 4 = .int .i64 (ln : Int) := hp 4 (by omega) rfl
 have p5 : vs 5 = .slice (cutA (some ⟨b, off, none⟩) c sz 1) (ln - sz) (c - sz) := hp 5 (by omega) rfl
 have p6 := hp 6 (by omega) rfl
 have p8 := hp 8 (by omega) rfl
 have p9 : vs 9 = .int .i64 0 := hp 9 (by omega) rfl
 clear hp
 simp only [List.take_succ_cons, List.take_zero, List.drop_succ_cons, List.drop_zero, putAll, Nat.zero_add, Nat.reduceAdd, Act.put, qsT, qsZ, qsS, p0, p1, p2, p3, p4, p5, p9]
 clear p0 p1 p2 p3 p4 p5 p9
 generalize vs 6 = y6 at *
 generalize vs 8 = y8 at *
 clear vs
 obtain ⟨A8, n8, c8, rfl, h8⟩ := p8
 go_wp2
 refine bodyPost_agg3 Tryz.results42 rfl rfl rfl (Bk.range hS) u1 u2 (szH4 _ _ _ _ _ _ _ _ _ _ _ _ _ _ _ _ _ _) rfl (RetP4.mk (hro.chg hC zo) h8.rb (h8.fresh be.size) ?_)
 exact be.trans (hC.below (B := w.heap.size) (fun b hb => by have : b = w.heap.size := hb; omega) be.size)
end

section
open Go.RowKit
attribute [local go_sem ↓] sliced_cut
attribute [local go_sem] cutA_zero
theorem refP4_short (A : Option Addr) (n c : Nat) (l : List UInt8) (w : World) (h : Rb w A n c l) (hm9 : n ≤ 2000000) (hn : n < 20) : NoC #[.slice A n c] w (RetV w (.tuple #[.agg (h4C 0 0 0 false false 0 0 0 0 false 0 0 false 0 0 none 0 0).toArray, .slice none 0 0, .int .i64 20])) := trivial
theorem refP4_f1 (A : Option Addr) (n c : Nat) (l : List UInt8) (w : World) (h : Rb w A n c l) (hm9 : n ≤ 2000000) (f ts ln id pl tl pr sm sa da : Nat) (x0 : num ((l.drop 0).take 1) = f) (x1 : num ((l.drop 1).take 1) = ts) (x2 : num ((l.drop 2).take 2) = ln) (x3 : num ((l.drop 4).take 2) = id) (x4 : num ((l.drop 6).take 2) = pl) (x5 : num ((l.drop 8).take 1) = tl) (x6 : num ((l.drop 9).take 1) = pr) (x7 : num ((l.drop 10).take 2) = sm) (x8 : num ((l.drop 12).take 4) = sa) (x9 : num ((l.drop 16).take 4) = da) (hn : 20 ≤ n) (hb : f / 16 ≠ 4) : NoC #[.slice A n c] w (RetV w (.tuple #[.agg (h4C 0 0 0 false false 0 0 0 0 false 0 0 false 0 0 none 0 0).toArray, .slice none 0 0, .int .i64 21])) := trivial
theorem refP4_f2 (A : Option Addr) (n c : Nat) (l : List UInt8) (w : World) (h : Rb w A n c l) (hm9 : n ≤ 2000000) (f ts ln id pl tl pr sm sa da : Nat) (x0 : num ((l.drop 0).take 1) = f) (x1 : num ((l.drop 1).take 1) = ts) (x2 : num ((l.drop 2).take 2) = ln) (x3 : num ((l.drop 4).take 2) = id) (x4 : num ((l.drop 6).take 2) = pl) (x5 : num ((l.drop 8).take 1) = tl) (x6 : num ((l.drop 9).take 1) = pr) (x7 : num ((l.drop 10).take 2) = sm) (x8 : num ((l.drop 12).take 4) = sa) (x9 : num ((l.drop 16).take 4) = da) (hn : 20 ≤ n) (hb : f / 16 = 4) (hs : 4 * (f % 16) < 20) : NoC #[.slice A n c] w (RetV w (.tuple #[.agg (h4C 0 0 0 false false 0 0 0 0 false 0 0 false 0 0 none 0 0).toArray, .slice none 0 0, .int .i64 21])) := trivial
theorem refP4_f3 (A : Option Addr) (n c : Nat) (l : List UInt8) (w : World) (h : Rb w A n c l) (hm9 : n ≤ 2000000) (f ts ln id pl tl pr sm sa da : Nat) (st mo : Bool) (x0 : num ((l.drop 0).take 1) = f) (x1 : num ((l.drop 1).take 1) = ts) (x2 : num ((l.drop 2).take 2) = ln) (x3 : num ((l.drop 4).take 2) = id) (x4 : num ((l.drop 6).take 2) = pl) (x5 : num ((l.drop 8).take 1) = tl) (x6 : num ((l.drop 9).take 1) = pr) (x7 : num ((l.drop 10).take 2) = sm) (x8 : num ((l.drop 12).take 4) = sa) (x9 : num ((l.drop 16).take 4) = da) (hst : (pl / 16384 % 2 == 1) = st) (hmo : (pl / 8192 % 2 == 1) = mo) (hn : 20 ≤ n) (hb : f / 16 = 4) (hs : 20 ≤ 4 * (f % 16)) (hp9 : 32768 ≤ pl) : NoC #[.slice A n c] w (RetV w (.tuple #[.agg (h4C 0 0 0 false false 0 0 0 0 false 0 0 false 0 0 none 0 0).toArray, .slice none 0 0, .int .i64 21])) := trivial
theorem refP4_f4 (A : Option Addr) (n c : Nat) (l : List UInt8) (w : World) (h : Rb w A n c l) (hm9 : n ≤ 2000000) (f ts ln id pl tl pr sm sa da : Nat) (st mo : Bool) (x0 : num ((l.drop 0).take 1) = f) (x1 : num ((l.drop 1).take 1) = ts) (x2 : num ((l.drop 2).take 2) = ln) (x3 : num ((l.drop 4).take 2) = id) (x4 : num ((l.drop 6).take 2) = pl) (x5 : num ((l.drop 8).take 1) = tl) (x6 : num ((l.drop 9).take 1) = pr) (x7 : num ((l.drop 10).take 2) = sm) (x8 : num ((l.drop 12).take 4) = sa) (x9 : num ((l.drop 16).take 4) = da) (hst : (pl / 16384 % 2 == 1) = st) (hmo : (pl / 8192 % 2 == 1) = mo) (hn : 20 ≤ n) (hb : f / 16 = 4) (hs : 20 ≤ 4 * (f % 16)) (hp9 : pl < 32768) (hl9 : ln < 4 * (f % 16)) : NoC #[.slice A n c] w (RetV w (.tuple #[.agg (h4C 0 0 0 false false 0 0 0 0 false 0 0 false 0 0 none 0 0).toArray, .slice none 0 0, .int .i64 21])) := trivial
theorem refP4_l (A : Option Addr) (n c : Nat) (l : List UInt8) (w : World) (h : Rb w A n c l) (hm9 : n ≤ 2000000) (f ts ln id pl tl pr sm sa da : Nat) (st mo : Bool) (x0 : num ((l.drop 0).take 1) = f) (x1 : num ((l.drop 1).take 1) = ts) (x2 : num ((l.drop 2).take 2) = ln) (x3 : num ((l.drop 4).take 2) = id) (x4 : num ((l.drop 6).take 2) = pl) (x5 : num ((l.drop 8).take 1) = tl) (x6 : num ((l.drop 9).take 1) = pr) (x7 : num ((l.drop 10).take 2) = sm) (x8 : num ((l.drop 12).take 4) = sa) (x9 : num ((l.drop 16).take 4) = da) (hst : (pl / 16384 % 2 == 1) = st) (hmo : (pl / 8192 % 2 == 1) = mo) (hn : 20 ≤ n) (hb : f / 16 = 4) (hs : 20 ≤ 4 * (f % 16)) (hp9 : pl < 32768) (hl9 : 4 * (f % 16) ≤ ln) (hq : n < ln) : NoC #[.slice A n c] w (RetV w (.tuple #[.agg (h4C 0 0 0 false false 0 0 0 0 false 0 0 false 0 0 none 0 0).toArray, .slice none 0 0, .int .i64 20])) := trivial
end

section
open Go.RowKit
attribute [local go_sem ↓] sliced_cut
attribute [local go_sem] cutA_zero
theorem refP4_sum (A : Option Addr) (n c : Nat) (l : List UInt8) (w : World) (h : Rb w A n c l) (hm9 : n ≤ 2000000) (f ts ln id pl tl pr sm sa da : Nat) (st mo : Bool) (x0 : num ((l.drop 0).take 1) = f) (x1 : num ((l.drop 1).take 1) = ts) (x2 : num ((l.drop 2).take 2) = ln) (x3 : num ((l.drop 4).take 2) = id) (x4 : num ((l.drop 6).take 2) = pl) (x5 : num ((l.drop 8).take 1) = tl) (x6 : num ((l.drop 9).take 1) = pr) (x7 : num ((l.drop 10).take 2) = sm) (x8 : num ((l.drop 12).take 4) = sa) (x9 : num ((l.drop 16).take 4) = da) (hst : (pl / 16384 % 2 == 1) = st) (hmo : (pl / 8192 % 2 == 1) = mo) (hn : 20 ≤ n) (hb : f / 16 = 4) (hs : 20 ≤ 4 * (f % 16)) (hp9 : pl < 32768) (hl9 : 4 * (f % 16) ≤ ln) (hq : ln ≤ n) (hck : 65535 - fd (tot false (l.take (4 * (f % 16)))) ≠ 0) : NoC #[.slice A n c] w (RetV w (.tuple #[.agg (h4C 0 0 0 false false 0 0 0 0 false 0 0 false 0 0 none 0 0).toArray, .slice none 0 0, .int .i64 22])) := trivial
theorem refP4_ok (A : Option Addr) (n c : Nat) (l : List UInt8) (w : World) (h : Rb w A n c l) (hm9 : n ≤ 2000000) (f ts ln id pl tl pr sm sa da : Nat) (st mo : Bool) (x0 : num ((l.drop 0).take 1) = f) (x1 : num ((l.drop 1).take 1) = ts) (x2 : num ((l.drop 2).take 2) = ln) (x3 : num ((l.drop 4).take 2) = id) (x4 : num ((l.drop 6).take 2) = pl) (x5 : num ((l.drop 8).take 1) = tl) (x6 : num ((l.drop 9).take 1) = pr) (x7 : num ((l.drop 10).take 2) = sm) (x8 : num ((l.drop 12).take 4) = sa) (x9 : num ((l.drop 16).take 4) = da) (hst : (pl / 16384 % 2 == 1) = st) (hmo : (pl / 8192 % 2 == 1) = mo) (hn : 20 ≤ n) (hb : f / 16 = 4) (hs : 20 ≤ 4 * (f % 16)) (hp9 : pl < 32768) (hl9 : 4 * (f % 16) ≤ ln) (hq : ln ≤ n) (hck : 65535 - fd (tot false (l.take (4 * (f % 16)))) = 0) : NoC #[.slice A n c] w (RetP4 w ts ln id st mo (pl % 8192) tl pr sm sa da ((l.drop 20).take (4 * (f % 16) - 20)) ((l.drop (4 * (f % 16))).take (ln - 4 * (f % 16)))) := trivial
end

section
open Go.RowKit
attribute [local go_sem ↓] sliced_cut
attribute [local go_sem] cutA_zero
def RetPE (w : World) (ts ln id : Nat) (st mo : Bool) (fo tl pr sm sa da : Nat) (o load : List UInt8) (E : Int) (e : Ending) (w' : World) : Prop := ∃ A n k A2 n2 k2 bs d, e = .returned (.tuple #[.agg (h4C ts (ln : Int) id st mo (fo : Int) tl pr sm false 0 sa false 0 da A n k).toArray, .slice A2 n2 k2, .int .i64 E]) ∧ w' = plus w bs d ∧ Rb (plus w bs d) A n k o ∧ Rb (plus w bs d) A2 n2 k2 load ∧ ∀ a, A2 = some a → w.heap.size ≤ a.block
theorem RetPE.err {w : World} {E : Int} {e : Ending} {w' : World} (h : RetV w (.tuple #[.agg (h4C 0 0 0 false false 0 0 0 0 false 0 0 false 0 0 none 0 0).toArray, .slice none 0 0, .int .i64 E]) e w') : RetPE w 0 0 0 false false 0 0 0 0 0 0 [] [] E e w' := by
 obtain ⟨bs, d, rfl, rfl⟩ := h
 exact ⟨none, 0, 0, none, 0, 0, bs, d, rfl, rfl, Rb.nil_, Rb.nil_, fun a ha => by cases ha⟩
theorem RetPE.ok {w : World} {ts ln id : Nat} {st mo : Bool} {fo tl pr sm sa da : Nat} {o load : List UInt8} {e : Ending} {w' : World} (h : RetP4 w ts ln id st mo fo tl pr sm sa da o load e w') : RetPE w ts ln id st mo fo tl pr sm sa da o load 0 e w' := h
set_option maxHeartbeats 4000000
set_option maxRecDepth 100000
structure Facts4 (l : List UInt8) (n ts ln id : Nat) (st mo : Bool) (fo tl pr sm sa da : Nat) (o load : List UInt8) (E : Int) : Prop where
 b : ts < 256 ∧ id < 65536 ∧ fo < 8192 ∧ tl < 256 ∧ pr < 256 ∧ sm < 65536 ∧ sa < 4294967296 ∧ da < 4294967296 ∧ o.length ≤ 40 ∧ o.length % 4 = 0 ∧ load.length ≤ n
 c : E = 0 → 20 ≤ n ∧ num ((l.drop 0).take 1) / 16 = 4 ∧ 20 ≤ 4 * (num ((l.drop 0).take 1) % 16) ∧ 4 * (num ((l.drop 0).take 1) % 16) ≤ ln ∧ ln ≤ n ∧ pr = num ((l.drop 9).take 1) ∧ sa = num ((l.drop 12).take 4) ∧ da = num ((l.drop 16).take 4) ∧ fo = num ((l.drop 6).take 2) % 8192 ∧ mo = (num ((l.drop 6).take 2) / 8192 % 2 == 1) ∧ load = (l.drop (4 * (num ((l.drop 0).take 1) % 16))).take (ln - 4 * (num ((l.drop 0).take 1) % 16)) ∧ o.length = 4 * (num ((l.drop 0).take 1) % 16) - 20
 d : load.length ≤ 65535
theorem Facts4.zero (l : List UInt8) (n : Nat) (E : Int) (hE : E ≠ 0) : Facts4 l n 0 0 0 false false 0 0 0 0 0 0 [] [] E := ⟨by simp, fun h => absurd h hE, by simp⟩
theorem reads4F (A : Option Addr) (n c : Nat) (l : List UInt8) (w : World) (h : Rb w A n c l) (hm : n ≤ 2000000) : ∃ (ts ln id : Nat) (st mo : Bool) (fo tl pr sm sa da : Nat) (o load : List UInt8) (E : Int), Facts4 l n ts ln id st mo fo tl pr sm sa da o load E ∧
  (∀ w', Below w.heap.size w w' → Calls Tryz.prog 42 #[.slice A n c] w' (RetPE w' ts ln id st mo fo tl pr sm sa da o load E)) ∧ (∀ w', Below w.heap.size w w' → NoC #[.slice A n c] w' (RetPE w' ts ln id st mo fo tl pr sm sa da o load E)) := by
 have bad : ∀ E : Int, (E != 0) = true → (∀ w', Below w.heap.size w w' → Calls Tryz.prog 64 #[.slice A n c] w' (RetV w' (.tuple #[.agg (h4C 0 0 0 false false 0 0 0 0 false 0 0 false 0 0 none 0 0).toArray, .int .i64 0, .int .i64 E]))) → (∀ w', Below w.heap.size w w' → NoC #[.slice A n c] w' (RetV w' (.tuple #[.agg (h4C 0 0 0 false false 0 0 0 0 false 0 0 false 0 0 none 0 0).toArray, .slice none 0 0, .int .i64 E]))) → ∃ (ts ln id : Nat) (st mo : Bool) (fo tl pr sm sa da : Nat) (o load : List UInt8) (E : Int), Facts4 l n ts ln id st mo fo tl pr sm sa da o load E ∧
  (∀ w', Below w.heap.size w w' → Calls Tryz.prog 42 #[.slice A n c] w' (RetPE w' ts ln id st mo fo tl pr sm sa da o load E)) ∧ (∀ w', Below w.heap.size w w' → NoC #[.slice A n c] w' (RetPE w' ts ln id st mo fo tl pr sm sa da o load E)) := fun E hE h1 h2 =>
  ⟨0, 0, 0, false, false, 0, 0, 0, 0, 0, 0, [], [], E, Facts4.zero l n E (by rw [bne_iff_ne] at hE; exact hE), fun w' hb => (parse4_err A n c E w' hE (fun w2 hb2 => h1 w2 (hb.trans (hb2.mono hb.size)))).mono fun _ _ => RetPE.err, fun w' hb => (h2 w' hb).mono fun _ _ => RetPE.err⟩
 by_cases g0 : n < 20
 ·exact bad 20 rfl (fun w' hb => hdr4_short A n c l w' (h.later hb) hm g0) (fun w' hb => refP4_short A n c l w' (h.later hb) hm g0)
 have hn : 20 ≤ n := by omega
 obtain ⟨f, x0⟩ : ∃ f, num ((l.drop 0).take 1) = f := ⟨_, rfl⟩
 obtain ⟨ts, x1⟩ : ∃ f, num ((l.drop 1).take 1) = f := ⟨_, rfl⟩
 obtain ⟨ln, x2⟩ : ∃ f, num ((l.drop 2).take 2) = f := ⟨_, rfl⟩
 obtain ⟨id, x3⟩ : ∃ f, num ((l.drop 4).take 2) = f := ⟨_, rfl⟩
 obtain ⟨pl, x4⟩ : ∃ f, num ((l.drop 6).take 2) = f := ⟨_, rfl⟩
 obtain ⟨tl, x5⟩ : ∃ f, num ((l.drop 8).take 1) = f := ⟨_, rfl⟩
 obtain ⟨pr, x6⟩ : ∃ f, num ((l.drop 9).take 1) = f := ⟨_, rfl⟩
 obtain ⟨sm, x7⟩ : ∃ f, num ((l.drop 10).take 2) = f := ⟨_, rfl⟩
 obtain ⟨sa, x8⟩ : ∃ f, num ((l.drop 12).take 4) = f := ⟨_, rfl⟩
 obtain ⟨da, x9⟩ : ∃ f, num ((l.drop 16).take 4) = f := ⟨_, rfl⟩
 by_cases g1 : f / 16 = 4
 case neg => exact bad 21 rfl (fun w' hb => hdr4_f1 A n c l w' (h.later hb) hm f ts ln id pl x0 x1 x2 x3 x4 hn g1) (fun w' hb => refP4_f1 A n c l w' (h.later hb) hm f ts ln id pl tl pr sm sa da x0 x1 x2 x3 x4 x5 x6 x7 x8 x9 hn g1)
 by_cases g2 : 4 * (f % 16) < 20
 ·exact bad 21 rfl (fun w' hb => hdr4_f2 A n c l w' (h.later hb) hm f ts ln id pl x0 x1 x2 x3 x4 hn g1 g2) (fun w' hb => refP4_f2 A n c l w' (h.later hb) hm f ts ln id pl tl pr sm sa da x0 x1 x2 x3 x4 x5 x6 x7 x8 x9 hn g1 g2)
 have g2' : 20 ≤ 4 * (f % 16) := by omega
 obtain ⟨st, hst⟩ : ∃ b, (pl / 16384 % 2 == 1) = b := ⟨_, rfl⟩
 obtain ⟨mo, hmo⟩ : ∃ b, (pl / 8192 % 2 == 1) = b := ⟨_, rfl⟩
 by_cases g3 : 32768 ≤ pl
 ·exact bad 21 rfl (fun w' hb => hdr4_f3 A n c l w' (h.later hb) hm f ts ln id pl x0 x1 x2 x3 x4 hn g1 g2' g3) (fun w' hb => refP4_f3 A n c l w' (h.later hb) hm f ts ln id pl tl pr sm sa da st mo x0 x1 x2 x3 x4 x5 x6 x7 x8 x9 hst hmo hn g1 g2' g3)
 have g3' : pl < 32768 := by omega
 by_cases g4 : ln < 4 * (f % 16)
 ·exact bad 21 rfl (fun w' hb => hdr4_f4 A n c l w' (h.later hb) hm f ts ln id pl x0 x1 x2 x3 x4 hn g1 g2' g3' g4) (fun w' hb => refP4_f4 A n c l w' (h.later hb) hm f ts ln id pl tl pr sm sa da st mo x0 x1 x2 x3 x4 x5 x6 x7 x8 x9 hst hmo hn g1 g2' g3' g4)
 have g4' : 4 * (f % 16) ≤ ln := by omega
 by_cases g5 : n < ln
 ·refine bad 20 rfl (fun w' hb => ?_) (fun w' hb => refP4_l A n c l w' (h.later hb) hm f ts ln id pl tl pr sm sa da st mo x0 x1 x2 x3 x4 x5 x6 x7 x8 x9 hst hmo hn g1 g2' g3' g4' g5)
  by_cases g6 : n < 4 * (f % 16)
  ·exact hdr4_l1 A n c l w' (h.later hb) hm f ts ln id pl x0 x1 x2 x3 x4 hn g1 g2' g3' g4' g6
  ·exact hdr4_l2 A n c l w' (h.later hb) hm f ts ln id pl x0 x1 x2 x3 x4 hn g1 g2' g3' g4' (by omega) g5
 have g5' : ln ≤ n := by omega
 by_cases g7 : 65535 - fd (tot false (l.take (4 * (f % 16)))) = 0
 case neg => exact bad 22 rfl (fun w' hb => hdr4_sum A n c l w' (h.later hb) hm f ts ln id pl x0 x1 x2 x3 x4 hn g1 g2' g3' g4' (by omega) g5' g7) (fun w' hb => refP4_sum A n c l w' (h.later hb) hm f ts ln id pl tl pr sm sa da st mo x0 x1 x2 x3 x4 x5 x6 x7 x8 x9 hst hmo hn g1 g2' g3' g4' g5' g7)
 have hl := h.1
 have kf : f < 256 := by rw [← x0]; exact num_lt' l 0 1 256 (by decide)
 refine ⟨ts, ln, id, st, mo, pl % 8192, tl, pr, sm, sa, da, (l.drop 20).take (4 * (f % 16) - 20), (l.drop (4 * (f % 16))).take (ln - 4 * (f % 16)), 0, ⟨⟨?_, ?_, ?_, ?_, ?_, ?_, ?_, ?_, ?_, ?_, ?_⟩, fun _ => ?_, by have := num_lt' l 2 2 65536 (by decide); rw [List.length_take]; omega⟩, fun w' hb => ?_, fun w' hb => ?_⟩
 ·rw [← x1]; exact num_lt' l 1 1 256 (by decide)
 ·rw [← x3]; exact num_lt' l 4 2 65536 (by decide)
 ·omega
 ·rw [← x5]; exact num_lt' l 8 1 256 (by decide)
 ·rw [← x6]; exact num_lt' l 9 1 256 (by decide)
 ·rw [← x7]; exact num_lt' l 10 2 65536 (by decide)
 ·rw [← x8]; exact num_lt' l 12 4 4294967296 (by decide)
 ·rw [← x9]; exact num_lt' l 16 4 4294967296 (by decide)
 ·rw [List.length_take, List.length_drop]; omega
 ·rw [List.length_take, List.length_drop]; omega
 ·rw [List.length_take, List.length_drop]; omega
 ·rw [x0, x4, x6, x8, x9]
  exact ⟨hn, g1, g2', g4', g5', rfl, rfl, rfl, rfl, hmo.symm, rfl, by rw [List.length_take, List.length_drop]; omega⟩
 ·exact (parse4_ok A n c l ts ln id st mo (pl % 8192) tl pr sm sa da (4 * (f % 16)) _ w' (h.later hb) hm g2' g4' g5' (fun w2 hb2 => hdr4_ok A n c l w2 ((h.later hb).later hb2) hm f ts ln id pl tl pr sm sa da st mo x0 x1 x2 x3 x4 x5 x6 x7 x8 x9 hst hmo hn g1 g2' g3' g4' (by omega) g5' g7)).mono fun _ _ => RetPE.ok
 ·exact (refP4_ok A n c l w' (h.later hb) hm f ts ln id pl tl pr sm sa da st mo x0 x1 x2 x3 x4 x5 x6 x7 x8 x9 hst hmo hn g1 g2' g3' g4' g5' g7).mono fun _ _ => RetPE.ok
end

section
open Go.RowKit
attribute [local go_sem ↓] sliced_cut
attribute [local go_sem] cutA_zero
set_option maxHeartbeats 4000000 in
set_option maxRecDepth 100000 in
theorem refRight4 (ts : Nat) (ln : Int) (id : Nat) (st mo : Bool) (fo : Int) (tl pr sm : Nat) (s6 : Bool) (sh sl : Nat) (d6 : Bool) (dh dl : Nat) (A : Option Addr) (n k : Nat) (w : World) (hn : n ≤ 2000000) (hi : -9223372036854775808 ≤ ln ∧ ln ≤ 9223372036854775807) (hf : -9223372036854775808 ≤ fo ∧ fo ≤ 9223372036854775807) (k1 : sh < 18446744073709551616) (k2 : sl < 18446744073709551616) (k3 : dh < 18446744073709551616) (k4 : dl < 18446744073709551616) : Calls Tryz.prog 83 #[.agg (h4C ts ln id st mo fo tl pr sm s6 sh sl d6 dh dl A n k).toArray] w (RetV w (.bool (r4 n ln fo s6 sh sl d6 dh dl))) := by
 have HA1 := Lib.hid (fun w => refAdrRightF sh sl w k1 k2)
 have HA2 := Lib.hid (fun w => refAdrRightF dh dl w k3 k4)
 obtain ⟨z, hz0⟩ : ∃ z : Nat, z = 20 + n := ⟨_, rfl⟩
 unfold h4C
 by_cases c0 : n ≤ 40
 ·skip
  have t00 := Lib.hid (show decide (n ≤ 40) = true from by simp only [decide_eq_true_eq, decide_eq_false_iff_not]; omega)
  have t01 := Lib.hid (show decide (40 < n) = false from by simp only [decide_eq_true_eq, decide_eq_false_iff_not]; omega)
  have t02 := Lib.hid (show decide ((n : Int) ≤ 40) = true from by simp only [decide_eq_true_eq, decide_eq_false_iff_not]; omega)
  have t03 := Lib.hid (show decide (40 < (n : Int)) = false from by simp only [decide_eq_true_eq, decide_eq_false_iff_not]; omega)
  by_cases c1 : n % 4 = 0
  ·skip
   have t10 := Lib.hid (show ((n : Int) % 4 == 0) = true from by rw [beq_iff_eq]; omega)
   have t19 := Lib.hid (show ((n : Int) % 4 != 0) = false from by rw [bne_eq_false_iff_eq]; omega)
   by_cases c2 : 20 + (n : Int) ≤ ln
   ·skip
    have t20 := Lib.hid (show decide (20 + (n : Int) ≤ ln) = true from by simp only [decide_eq_true_eq, decide_eq_false_iff_not]; omega)
    have t21 := Lib.hid (show decide (ln < 20 + (n : Int)) = false from by simp only [decide_eq_true_eq, decide_eq_false_iff_not]; omega)
    have t22 := Lib.hid (show decide ((z : Int) ≤ ln) = true from by simp only [decide_eq_true_eq, decide_eq_false_iff_not]; omega)
    by_cases c3 : ln ≤ 65535
    ·skip
     have t30 := Lib.hid (show decide (ln ≤ 65535) = true from by simp only [decide_eq_true_eq, decide_eq_false_iff_not]; omega)
     have t31 := Lib.hid (show decide (65535 < ln) = false from by simp only [decide_eq_true_eq, decide_eq_false_iff_not]; omega)
     by_cases c4 : 0 ≤ fo
     ·skip
      have t40 := Lib.hid (show decide (0 ≤ fo) = true from by simp only [decide_eq_true_eq, decide_eq_false_iff_not]; omega)
      have t41 := Lib.hid (show decide (fo < 0) = false from by simp only [decide_eq_true_eq, decide_eq_false_iff_not]; omega)
      by_cases c5 : fo ≤ 8191
      ·skip
       have t50 := Lib.hid (show decide (fo ≤ 8191) = true from by simp only [decide_eq_true_eq, decide_eq_false_iff_not]; omega)
       have t51 := Lib.hid (show decide (8191 < fo) = false from by simp only [decide_eq_true_eq, decide_eq_false_iff_not]; omega)
       have hz : Hid (r4 n ln fo s6 sh sl d6 dh dl = (ad4 s6 sh sl && ad4 d6 dh dl)) := Lib.hid (by unfold r4; simp only [c0, c1, c2, c3, c4, c5, decide_true, decide_false, Bool.true_and, Bool.false_and, Bool.and_false])
       clear c0 c1 c2 c3 c4 c5
       replace t00 := t00.out
       replace t01 := t01.out
       replace t02 := t02.out
       replace t03 := t03.out
       replace t10 := t10.out
       replace t20 := t20.out
       replace t21 := t21.out
       replace t22 := t22.out
       replace t30 := t30.out
       replace t31 := t31.out
       replace t40 := t40.out
       replace t41 := t41.out
       replace t50 := t50.out
       replace t51 := t51.out
       replace t19 := t19.out
       cases s6
       ·cases d6
        ·cases hq : ad4 false sh sl
         ·rw [hq] at HA1 hz
          go_enter Tryz.func83, Tryz.ntmps83
          go_wp2_with (go_at_call 16; first | ((with_reducible refine (HA1.out _).mono ?_); rintro e w1 ⟨bs1, d1, rfl, rfl⟩) | ((with_reducible refine (HA2.out _).mono ?_); rintro e w1 ⟨bs2, d2, rfl, rfl⟩))
          go_ret
          exact RetV.is_ (by rw [hz.out]; simp) (by with_reducible repeat (first | exact Below.refl _ _ | refine belowP ?_ _ _ | refine Below.allocS ?_ _))
         ·rw [hq] at HA1 hz
          generalize ad4 false dh dl = q2 at *
          go_enter Tryz.func83, Tryz.ntmps83
          go_wp2_with (go_at_call 16; first | ((with_reducible refine (HA1.out _).mono ?_); rintro e w1 ⟨bs1, d1, rfl, rfl⟩) | ((with_reducible refine (HA2.out _).mono ?_); rintro e w1 ⟨bs2, d2, rfl, rfl⟩))
          go_ret
          exact RetV.is_ (by rw [hz.out]; simp) (by with_reducible repeat (first | exact Below.refl _ _ | refine belowP ?_ _ _ | refine Below.allocS ?_ _))
        ·have hz2 : ad4 true dh dl = false := rfl
         rw [hz2, Bool.and_false] at hz
         go_enter Tryz.func83, Tryz.ntmps83
         go_wp2_with (go_at_call 16; first | ((with_reducible refine (HA1.out _).mono ?_); rintro e w1 ⟨bs1, d1, rfl, rfl⟩) | ((with_reducible refine (HA2.out _).mono ?_); rintro e w1 ⟨bs2, d2, rfl, rfl⟩))
         go_ret
         exact RetV.is_ (by rw [hz.out]; simp) (by with_reducible repeat (first | exact Below.refl _ _ | refine belowP ?_ _ _ | refine Below.allocS ?_ _))
       ·have hz2 : ad4 true sh sl = false := rfl
        rw [hz2, Bool.false_and] at hz
        go_enter Tryz.func83, Tryz.ntmps83
        go_wp2_with (go_at_call 16; first | ((with_reducible refine (HA1.out _).mono ?_); rintro e w1 ⟨bs1, d1, rfl, rfl⟩) | ((with_reducible refine (HA2.out _).mono ?_); rintro e w1 ⟨bs2, d2, rfl, rfl⟩))
        go_ret
        exact RetV.is_ (by rw [hz.out]; simp) (by with_reducible repeat (first | exact Below.refl _ _ | refine belowP ?_ _ _ | refine Below.allocS ?_ _))
      ·skip
       have t50 := Lib.hid (show decide (fo ≤ 8191) = false from by simp only [decide_eq_true_eq, decide_eq_false_iff_not]; omega)
       have t51 := Lib.hid (show decide (8191 < fo) = true from by simp only [decide_eq_true_eq, decide_eq_false_iff_not]; omega)
       have hz : Hid (r4 n ln fo s6 sh sl d6 dh dl = (false)) := Lib.hid (by unfold r4; simp only [c0, c1, c2, c3, c4, c5, decide_true, decide_false, Bool.true_and, Bool.false_and, Bool.and_false])
       clear c0 c1 c2 c3 c4 c5
       replace t00 := t00.out
       replace t01 := t01.out
       replace t02 := t02.out
       replace t03 := t03.out
       replace t10 := t10.out
       replace t20 := t20.out
       replace t21 := t21.out
       replace t22 := t22.out
       replace t30 := t30.out
       replace t31 := t31.out
       replace t40 := t40.out
       replace t41 := t41.out
       replace t50 := t50.out
       replace t51 := t51.out
       replace t19 := t19.out
       go_enter Tryz.func83, Tryz.ntmps83
       go_wp2_with (go_at_call 16; first | ((with_reducible refine (HA1.out _).mono ?_); rintro e w1 ⟨bs1, d1, rfl, rfl⟩) | ((with_reducible refine (HA2.out _).mono ?_); rintro e w1 ⟨bs2, d2, rfl, rfl⟩))
       go_ret
       exact RetV.is_ (by rw [hz.out]; simp) (by with_reducible repeat (first | exact Below.refl _ _ | refine belowP ?_ _ _ | refine Below.allocS ?_ _))
     ·skip
      have t40 := Lib.hid (show decide (0 ≤ fo) = false from by simp only [decide_eq_true_eq, decide_eq_false_iff_not]; omega)
      have t41 := Lib.hid (show decide (fo < 0) = true from by simp only [decide_eq_true_eq, decide_eq_false_iff_not]; omega)
      have hz : Hid (r4 n ln fo s6 sh sl d6 dh dl = (false)) := Lib.hid (by unfold r4; simp only [c0, c1, c2, c3, c4, decide_true, decide_false, Bool.true_and, Bool.false_and, Bool.and_false])
      clear c0 c1 c2 c3 c4
      replace t00 := t00.out
      replace t01 := t01.out
      replace t02 := t02.out
      replace t03 := t03.out
      replace t10 := t10.out
      replace t20 := t20.out
      replace t21 := t21.out
      replace t22 := t22.out
      replace t30 := t30.out
      replace t31 := t31.out
      replace t40 := t40.out
      replace t41 := t41.out
      replace t19 := t19.out
      go_enter Tryz.func83, Tryz.ntmps83
      go_wp2_with (go_at_call 16; first | ((with_reducible refine (HA1.out _).mono ?_); rintro e w1 ⟨bs1, d1, rfl, rfl⟩) | ((with_reducible refine (HA2.out _).mono ?_); rintro e w1 ⟨bs2, d2, rfl, rfl⟩))
      go_ret
      exact RetV.is_ (by rw [hz.out]; simp) (by with_reducible repeat (first | exact Below.refl _ _ | refine belowP ?_ _ _ | refine Below.allocS ?_ _))
    ·skip
     have t30 := Lib.hid (show decide (ln ≤ 65535) = false from by simp only [decide_eq_true_eq, decide_eq_false_iff_not]; omega)
     have t31 := Lib.hid (show decide (65535 < ln) = true from by simp only [decide_eq_true_eq, decide_eq_false_iff_not]; omega)
     have hz : Hid (r4 n ln fo s6 sh sl d6 dh dl = (false)) := Lib.hid (by unfold r4; simp only [c0, c1, c2, c3, decide_true, decide_false, Bool.true_and, Bool.false_and, Bool.and_false])
     clear c0 c1 c2 c3
     replace t00 := t00.out
     replace t01 := t01.out
     replace t02 := t02.out
     replace t03 := t03.out
     replace t10 := t10.out
     replace t20 := t20.out
     replace t21 := t21.out
     replace t22 := t22.out
     replace t30 := t30.out
     replace t31 := t31.out
     replace t19 := t19.out
     go_enter Tryz.func83, Tryz.ntmps83
     go_wp2_with (go_at_call 16; first | ((with_reducible refine (HA1.out _).mono ?_); rintro e w1 ⟨bs1, d1, rfl, rfl⟩) | ((with_reducible refine (HA2.out _).mono ?_); rintro e w1 ⟨bs2, d2, rfl, rfl⟩))
     go_ret
     exact RetV.is_ (by rw [hz.out]; simp) (by with_reducible repeat (first | exact Below.refl _ _ | refine belowP ?_ _ _ | refine Below.allocS ?_ _))
   ·skip
    have t20 := Lib.hid (show decide (20 + (n : Int) ≤ ln) = false from by simp only [decide_eq_true_eq, decide_eq_false_iff_not]; omega)
    have t21 := Lib.hid (show decide (ln < 20 + (n : Int)) = true from by simp only [decide_eq_true_eq, decide_eq_false_iff_not]; omega)
    have t22 := Lib.hid (show decide ((z : Int) ≤ ln) = false from by simp only [decide_eq_true_eq, decide_eq_false_iff_not]; omega)
    have hz : Hid (r4 n ln fo s6 sh sl d6 dh dl = (false)) := Lib.hid (by unfold r4; simp only [c0, c1, c2, decide_true, decide_false, Bool.true_and, Bool.false_and, Bool.and_false])
    clear c0 c1 c2
    replace t00 := t00.out
    replace t01 := t01.out
    replace t02 := t02.out
    replace t03 := t03.out
    replace t10 := t10.out
    replace t20 := t20.out
    replace t21 := t21.out
    replace t22 := t22.out
    replace t19 := t19.out
    go_enter Tryz.func83, Tryz.ntmps83
    go_wp2_with (go_at_call 16; first | ((with_reducible refine (HA1.out _).mono ?_); rintro e w1 ⟨bs1, d1, rfl, rfl⟩) | ((with_reducible refine (HA2.out _).mono ?_); rintro e w1 ⟨bs2, d2, rfl, rfl⟩))
    go_ret
    exact RetV.is_ (by rw [hz.out]; simp) (by with_reducible repeat (first | exact Below.refl _ _ | refine belowP ?_ _ _ | refine Below.allocS ?_ _))
  ·skip
   have t10 := Lib.hid (show ((n : Int) % 4 == 0) = false from by rw [beq_eq_false_iff_ne]; omega)
   have t19 := Lib.hid (show ((n : Int) % 4 != 0) = true from by rw [bne_iff_ne]; omega)
   have hz : Hid (r4 n ln fo s6 sh sl d6 dh dl = (false)) := Lib.hid (by unfold r4; simp only [c0, c1, decide_true, decide_false, Bool.true_and, Bool.false_and, Bool.and_false])
   clear c0 c1
   replace t00 := t00.out
   replace t01 := t01.out
   replace t02 := t02.out
   replace t03 := t03.out
   replace t10 := t10.out
   replace t19 := t19.out
   go_enter Tryz.func83, Tryz.ntmps83
   go_wp2_with (go_at_call 16; first | ((with_reducible refine (HA1.out _).mono ?_); rintro e w1 ⟨bs1, d1, rfl, rfl⟩) | ((with_reducible refine (HA2.out _).mono ?_); rintro e w1 ⟨bs2, d2, rfl, rfl⟩))
   go_ret
   exact RetV.is_ (by rw [hz.out]; simp) (by with_reducible repeat (first | exact Below.refl _ _ | refine belowP ?_ _ _ | refine Below.allocS ?_ _))
 ·skip
  have t00 := Lib.hid (show decide (n ≤ 40) = false from by simp only [decide_eq_true_eq, decide_eq_false_iff_not]; omega)
  have t01 := Lib.hid (show decide (40 < n) = true from by simp only [decide_eq_true_eq, decide_eq_false_iff_not]; omega)
  have t02 := Lib.hid (show decide ((n : Int) ≤ 40) = false from by simp only [decide_eq_true_eq, decide_eq_false_iff_not]; omega)
  have t03 := Lib.hid (show decide (40 < (n : Int)) = true from by simp only [decide_eq_true_eq, decide_eq_false_iff_not]; omega)
  have hz : Hid (r4 n ln fo s6 sh sl d6 dh dl = (false)) := Lib.hid (by unfold r4; simp only [c0, decide_true, decide_false, Bool.true_and, Bool.false_and, Bool.and_false])
  clear c0
  replace t00 := t00.out
  replace t01 := t01.out
  replace t02 := t02.out
  replace t03 := t03.out
  go_enter Tryz.func83, Tryz.ntmps83
  go_wp2_with (go_at_call 16; first | ((with_reducible refine (HA1.out _).mono ?_); rintro e w1 ⟨bs1, d1, rfl, rfl⟩) | ((with_reducible refine (HA2.out _).mono ?_); rintro e w1 ⟨bs2, d2, rfl, rfl⟩))
  go_ret
  exact RetV.is_ (by rw [hz.out]; simp) (by with_reducible repeat (first | exact Below.refl _ _ | refine belowP ?_ _ _ | refine Below.allocS ?_ _))
end

section
open Go.RowKit
attribute [local go_sem ↓] sliced_cut
attribute [local go_sem] cutA_zero
set_option maxRecDepth 100000 in
theorem fragment4 (ts : Nat) (ln : Int) (id : Nat) (st mo : Bool) (fo : Int) (tl pr sm : Nat) (s6 : Bool) (sh sl : Nat) (d6 : Bool) (dh dl : Nat) (A : Option Addr) (n k : Nat) (w : World) : Calls Tryz.prog 73 #[.agg (h4C ts ln id st mo fo tl pr sm s6 sh sl d6 dh dl A n k).toArray] w (RetV w (.bool (mo || decide (0 < fo)))) := by
 unfold h4C
 go_enter Tryz.func73, Tryz.ntmps73
 cases mo <;> go_wp2 <;> go_ret <;> exact RetV.is_ (by first | rfl | simp) (by first | exact Below.allocS (Below.refl _ _) _ | exact Below.refl _ _)
end

section
open Go.RowKit
attribute [local go_sem ↓] sliced_cut
attribute [local go_sem] cutA_zero
def ip6R (x0 x1 lb ln nx ht : Nat) (s6 : Bool) (sh sl : Nat) (d6 : Bool) (dh dl : Nat) : List UInt8 := ([[UInt8.ofNat x0, UInt8.ofNat x1], (dig (lb) 2), (dig (ln) 2), [UInt8.ofNat (nx), UInt8.ofNat (ht)], (adrB s6 sh sl), (adrB d6 dh dl)]).flatten
set_option maxHeartbeats 4000000
set_option maxRecDepth 100000
theorem refIp6Bytes (cl lb : Nat) (ln : Nat) (nx ht : Nat) (s6 : Bool) (sh sl : Nat) (d6 : Bool) (dh dl : Nat) (w : World) (h1 : cl < 256) (h2 : lb < 1048576) (h3 : ln < 65536) (h4 : nx < 256) (h5 : ht < 256) (k1 : sh < 18446744073709551616) (k2 : sl < 18446744073709551616) (k3 : dh < 18446744073709551616) (k4 : dl < 18446744073709551616) : Calls Tryz.prog 82 #[.agg #[.int .u8 (cl : Int), .int .u32 (lb : Int), .int .i64 (ln : Int), .int .u8 (nx : Int), .int .u8 (ht : Int), .bool s6, .int .u64 (sh : Int), .int .u64 (sl : Int), .bool d6, .int .u64 (dh : Int), .int .u64 (dl : Int)]] w (RetB w (ip6R (96 + cl / 16) (cl % 16 * 16 + lb / 65536) lb ln nx ht s6 sh sl d6 dh dl)) := by
 have z1 := adrB_length s6 sh sl
 have z2 := adrB_length d6 dh dl
 obtain ⟨x0, hx0⟩ : ∃ x, x = 96 + cl / 16 := ⟨_, rfl⟩
 obtain ⟨x1, hx1⟩ : ∃ x, x = cl % 16 * 16 + lb / 65536 := ⟨_, rfl⟩
 rw [← hx0, ← hx1]
 have l0 : x0 < 256 := by omega
 have l1 : x1 < 256 := by omega
 have f0 : 96 + (cl : Int) / 16 = (x0 : Int) := by omega
 have f1 : (cl : Int) % 16 * 16 + (lb : Int) / 65536 = (x1 : Int) := by omega
 clear hx0 hx1
 have HT : ([[UInt8.ofNat x0, UInt8.ofNat x1], (dig (lb) 2), (dig (ln) 2), [UInt8.ofNat (nx), UInt8.ofNat (ht)], (adrB s6 sh sl), (adrB d6 dh dl)]).flatten.length ≤ 549755813888 := by simp [dig_length]; omega
 replace HT := Lib.hid HT
 have hr3 : Rb ((w.alloc (.cells #[.int .u8 (cl : Int), .int .u32 (lb : Int), .int .i64 (ln : Int), .int .u8 (nx : Int), .int .u8 (ht : Int), .bool s6, .int .u64 (sh : Int), .int .u64 (sl : Int), .bool d6, .int .u64 (dh : Int), .int .u64 (dl : Int)] 120)).alloc (.cells #[.int .u8 (x0 : Int), .int .u8 (x1 : Int)] 5)) (some ⟨w.heap.size + 1, 0, none⟩) 2 2 [UInt8.ofNat x0, UInt8.ofNat x1] := Rb.litW _ _ (by simp) rfl (by decide) (by simp [bcs]; omega)
 have be : Below w.heap.size w ((w.alloc (.cells #[.int .u8 (cl : Int), .int .u32 (lb : Int), .int .i64 (ln : Int), .int .u8 (nx : Int), .int .u8 (ht : Int), .bool s6, .int .u64 (sh : Int), .int .u64 (sl : Int), .bool d6, .int .u64 (dh : Int), .int .u64 (dl : Int)] 120)).alloc (.cells #[.int .u8 (x0 : Int), .int .u8 (x1 : Int)] 5)) := Below.allocS (Below.allocS (Below.refl _ _) _) _
 have g0 : IntKind.u64.wrap (lb : Int) = (lb : Int) := IntWalk.u64_in _ (by omega)
 have g1 : IntKind.u64.wrap (ln : Int) = (ln : Int) := IntWalk.u64_in _ (by omega)
 go_enter Tryz.func82, Tryz.ntmps82
 go_wp2
 refine wp_rel 23 44 rfl (by kernel_rfl) (by kernel_rfl) (fun i => match i with | 0 => MP.eq (.slice (some ⟨w.heap.size + 1, 0, none⟩) 2 2) | 1 => MP.eq (.pointer (some ⟨w.heap.size, 1, none⟩)) | 2 => MP.eq (.int .u32 (lb : Int)) | 3 => MP.eq (.int .u64 (lb : Int)) | 4 => MP.rb (dig (lb) 2) | 5 => MP.eq (.pointer (some ⟨w.heap.size, 2, none⟩)) | 6 => MP.eq (.int .i64 (ln : Int)) | 7 => MP.eq (.int .u64 (ln : Int)) | 8 => MP.rb (dig (ln) 2) | 9 => MP.eq (.pointer (some ⟨w.heap.size, 3, none⟩)) | 10 => MP.eq (.int .u8 (nx : Int)) | 11 => MP.eq (.pointer (some ⟨w.heap.size, 4, none⟩)) | 12 => MP.eq (.int .u8 (ht : Int)) | 13 => MP.rb [UInt8.ofNat (nx), UInt8.ofNat (ht)] | 14 => MP.eq (.pointer (some ⟨w.heap.size, 5, none⟩)) | 15 => MP.eq (.agg #[.bool s6, .int .u64 (sh : Int), .int .u64 (sl : Int)]) | 16 => MP.ob w.heap.size (adrB s6 sh sl) | 17 => MP.eq (.pointer (some ⟨w.heap.size, 8, none⟩)) | 18 => MP.eq (.agg #[.bool d6, .int .u64 (dh : Int), .int .u64 (dl : Int)]) | 19 => MP.ob w.heap.size (adrB d6 dh dl) | 20 => MP.rdl [[UInt8.ofNat x0, UInt8.ofNat x1], (dig (lb) 2), (dig (ln) 2), [UInt8.ofNat (nx), UInt8.ofNat (ht)], (adrB s6 sh sl), (adrB d6 dh dl)] | 21 => MP.ob w.heap.size ([[UInt8.ofNat x0, UInt8.ofNat x1], (dig (lb) 2), (dig (ln) 2), [UInt8.ofNat (nx), UInt8.ofNat (ht)], (adrB s6 sh sl), (adrB d6 dh dl)]).flatten | 22 => MP.ob w.heap.size ([[UInt8.ofNat x0, UInt8.ofNat x1], (dig (lb) 2), (dig (ln) 2), [UInt8.ofNat (nx), UInt8.ofNat (ht)], (adrB s6 sh sl), (adrB d6 dh dl)]).flatten | _ => MP.any) ?_ ?_
 ·intro i hi o ho FA x hO hD K hK
  match i, hi, ho, hO, hD, hK with
  | 0, _, ho, hO, hD, hK => 
   obtain rfl := qoi ho
   have ev3 : FA.eval (.tmp 3) = .slice (some ⟨w.heap.size + 1, 0, none⟩) 2 2 := hO 3 (by kernel_rfl)
   have e3 : FA.tmps[3]?.getD undef = .slice (some ⟨w.heap.size + 1, 0, none⟩) 2 2 := by simpa [Act.eval] using ev3
   replace ev3 := Lib.hid ev3
   clear hO hD ho
   go_simp
   exact hK.out _ _ (Ex.refl _) rfl
  | 1, _, ho, hO, hD, hK => 
   obtain rfl := qoi ho
   have ev1 : FA.eval (.tmp 1) = .pointer (some ⟨w.heap.size, 0, none⟩) := hO 1 (by kernel_rfl)
   have e1 : FA.tmps[1]?.getD undef = .pointer (some ⟨w.heap.size, 0, none⟩) := by simpa [Act.eval] using ev1
   replace ev1 := Lib.hid ev1
   clear hO hD ho
   go_simp
   exact hK.out _ _ (Ex.refl _) rfl
  | 2, _, ho, hO, hD, hK => 
   obtain rfl := qoi ho
   have ev23 : FA.eval (.tmp 23) = .pointer (some ⟨w.heap.size, 1, none⟩) := hD 1 23 (by kernel_rfl)
   have e23 : FA.tmps[23]?.getD undef = .pointer (some ⟨w.heap.size, 1, none⟩) := by simpa [Act.eval] using ev23
   replace ev23 := Lib.hid ev23
   clear hO hD ho
   go_simp
   exact hK.out _ _ (Ex.refl _) rfl
  | 3, _, ho, hO, hD, hK => 
   obtain rfl := qoi ho
   have ev24 : FA.eval (.tmp 24) = .int .u32 (lb : Int) := hD 2 24 (by kernel_rfl)
   have e24 : FA.tmps[24]?.getD undef = .int .u32 (lb : Int) := by simpa [Act.eval] using ev24
   replace ev24 := Lib.hid ev24
   clear hO hD ho
   go_simp
   exact hK.out _ _ (Ex.refl _) rfl
  | 4, _, ho, hO, hD, hK => 
   obtain rfl := qoi ho
   have ev25 : FA.eval (.tmp 25) = .int .u64 (lb : Int) := hD 3 25 (by kernel_rfl)
   have e25 : FA.tmps[25]?.getD undef = .int .u64 (lb : Int) := by simpa [Act.eval] using ev25
   replace ev25 := Lib.hid ev25
   clear hO hD ho
   go_simp
   refine (refBytes_any (lb) 2 _ (by omega) (by omega)).mono ?_
   rintro e w1 ⟨A2, n2, c2, bs2, d2, rfl, rfl, ho2⟩
   exact hK.out _ _ (Ex.plus_ _ _ _) ⟨_, _, _, rfl, ho2.rb⟩
  | 5, _, ho, hO, hD, hK => 
   obtain rfl := qoi ho
   have ev1 : FA.eval (.tmp 1) = .pointer (some ⟨w.heap.size, 0, none⟩) := hO 1 (by kernel_rfl)
   have e1 : FA.tmps[1]?.getD undef = .pointer (some ⟨w.heap.size, 0, none⟩) := by simpa [Act.eval] using ev1
   replace ev1 := Lib.hid ev1
   clear hO hD ho
   go_simp
   exact hK.out _ _ (Ex.refl _) rfl
  | 6, _, ho, hO, hD, hK => 
   obtain rfl := qoi ho
   have ev27 : FA.eval (.tmp 27) = .pointer (some ⟨w.heap.size, 2, none⟩) := hD 5 27 (by kernel_rfl)
   have e27 : FA.tmps[27]?.getD undef = .pointer (some ⟨w.heap.size, 2, none⟩) := by simpa [Act.eval] using ev27
   replace ev27 := Lib.hid ev27
   clear hO hD ho
   go_simp
   exact hK.out _ _ (Ex.refl _) rfl
  | 7, _, ho, hO, hD, hK => 
   obtain rfl := qoi ho
   have ev28 : FA.eval (.tmp 28) = .int .i64 (ln : Int) := hD 6 28 (by kernel_rfl)
   have e28 : FA.tmps[28]?.getD undef = .int .i64 (ln : Int) := by simpa [Act.eval] using ev28
   replace ev28 := Lib.hid ev28
   clear hO hD ho
   go_simp
   exact hK.out _ _ (Ex.refl _) rfl
  | 8, _, ho, hO, hD, hK => 
   obtain rfl := qoi ho
   have ev29 : FA.eval (.tmp 29) = .int .u64 (ln : Int) := hD 7 29 (by kernel_rfl)
   have e29 : FA.tmps[29]?.getD undef = .int .u64 (ln : Int) := by simpa [Act.eval] using ev29
   replace ev29 := Lib.hid ev29
   clear hO hD ho
   go_simp
   refine (refBytes_any (ln) 2 _ (by omega) (by omega)).mono ?_
   rintro e w1 ⟨A2, n2, c2, bs2, d2, rfl, rfl, ho2⟩
   exact hK.out _ _ (Ex.plus_ _ _ _) ⟨_, _, _, rfl, ho2.rb⟩
  | 9, _, ho, hO, hD, hK => 
   obtain rfl := qoi ho
   have ev1 : FA.eval (.tmp 1) = .pointer (some ⟨w.heap.size, 0, none⟩) := hO 1 (by kernel_rfl)
   have e1 : FA.tmps[1]?.getD undef = .pointer (some ⟨w.heap.size, 0, none⟩) := by simpa [Act.eval] using ev1
   replace ev1 := Lib.hid ev1
   clear hO hD ho
   go_simp
   exact hK.out _ _ (Ex.refl _) rfl
  | 10, _, ho, hO, hD, hK => 
   obtain rfl := qoi ho
   have ev31 : FA.eval (.tmp 31) = .pointer (some ⟨w.heap.size, 3, none⟩) := hD 9 31 (by kernel_rfl)
   have e31 : FA.tmps[31]?.getD undef = .pointer (some ⟨w.heap.size, 3, none⟩) := by simpa [Act.eval] using ev31
   replace ev31 := Lib.hid ev31
   clear hO hD ho
   go_simp
   exact hK.out _ _ (Ex.refl _) rfl
  | 11, _, ho, hO, hD, hK => 
   obtain rfl := qoi ho
   have ev1 : FA.eval (.tmp 1) = .pointer (some ⟨w.heap.size, 0, none⟩) := hO 1 (by kernel_rfl)
   have e1 : FA.tmps[1]?.getD undef = .pointer (some ⟨w.heap.size, 0, none⟩) := by simpa [Act.eval] using ev1
   replace ev1 := Lib.hid ev1
   clear hO hD ho
   go_simp
   exact hK.out _ _ (Ex.refl _) rfl
  | 12, _, ho, hO, hD, hK => 
   obtain rfl := qoi ho
   have ev33 : FA.eval (.tmp 33) = .pointer (some ⟨w.heap.size, 4, none⟩) := hD 11 33 (by kernel_rfl)
   have e33 : FA.tmps[33]?.getD undef = .pointer (some ⟨w.heap.size, 4, none⟩) := by simpa [Act.eval] using ev33
   replace ev33 := Lib.hid ev33
   clear hO hD ho
   go_simp
   exact hK.out _ _ (Ex.refl _) rfl
  | 13, _, ho, hO, hD, hK => 
   obtain rfl := qoi ho
   have ev32 : FA.eval (.tmp 32) = .int .u8 (nx : Int) := hD 10 32 (by kernel_rfl)
   have e32 : FA.tmps[32]?.getD undef = .int .u8 (nx : Int) := by simpa [Act.eval] using ev32
   replace ev32 := Lib.hid ev32
   have ev34 : FA.eval (.tmp 34) = .int .u8 (ht : Int) := hD 12 34 (by kernel_rfl)
   have e34 : FA.tmps[34]?.getD undef = .int .u8 (ht : Int) := by simpa [Act.eval] using ev34
   replace ev34 := Lib.hid ev34
   clear hO hD ho
   go_simp
   refine hK.out _ _ (Ex.alloc _ _) ⟨_, _, _, rfl, ?_⟩
   refine Rb.litW _ [UInt8.ofNat (nx), UInt8.ofNat (ht)] ?_ rfl (by decide) ?_
   ·simp [size_plus]
   ·simp [bcs]; try omega
  | 14, _, ho, hO, hD, hK => 
   obtain rfl := qoi ho
   have ev1 : FA.eval (.tmp 1) = .pointer (some ⟨w.heap.size, 0, none⟩) := hO 1 (by kernel_rfl)
   have e1 : FA.tmps[1]?.getD undef = .pointer (some ⟨w.heap.size, 0, none⟩) := by simpa [Act.eval] using ev1
   replace ev1 := Lib.hid ev1
   clear hO hD ho
   go_simp
   exact hK.out _ _ (Ex.refl _) rfl
  | 15, _, ho, hO, hD, hK => 
   obtain rfl := qoi ho
   have ev36 : FA.eval (.tmp 36) = .pointer (some ⟨w.heap.size, 5, none⟩) := hD 14 36 (by kernel_rfl)
   have e36 : FA.tmps[36]?.getD undef = .pointer (some ⟨w.heap.size, 5, none⟩) := by simpa [Act.eval] using ev36
   replace ev36 := Lib.hid ev36
   clear hO hD ho
   go_simp
   exact hK.out _ _ (Ex.refl _) rfl
  | 16, _, ho, hO, hD, hK => 
   obtain rfl := qoi ho
   have ev37 : FA.eval (.tmp 37) = .agg #[.bool s6, .int .u64 (sh : Int), .int .u64 (sl : Int)] := hD 15 37 (by kernel_rfl)
   have e37 : FA.tmps[37]?.getD undef = .agg #[.bool s6, .int .u64 (sh : Int), .int .u64 (sl : Int)] := by simpa [Act.eval] using ev37
   replace ev37 := Lib.hid ev37
   clear hO hD ho
   go_simp
   refine (refAdrBytes s6 sh sl _ (by omega) (by omega)).mono ?_
   rintro e w1 ⟨A2, n2, c2, bs2, d2, rfl, rfl, ho2⟩
   exact hK.out _ _ (Ex.plus_ _ _ _) ⟨_, _, _, rfl, ho2.mono (by have := be.size; simp [size_plus]; omega)⟩
  | 17, _, ho, hO, hD, hK => 
   obtain rfl := qoi ho
   have ev1 : FA.eval (.tmp 1) = .pointer (some ⟨w.heap.size, 0, none⟩) := hO 1 (by kernel_rfl)
   have e1 : FA.tmps[1]?.getD undef = .pointer (some ⟨w.heap.size, 0, none⟩) := by simpa [Act.eval] using ev1
   replace ev1 := Lib.hid ev1
   clear hO hD ho
   go_simp
   exact hK.out _ _ (Ex.refl _) rfl
  | 18, _, ho, hO, hD, hK => 
   obtain rfl := qoi ho
   have ev39 : FA.eval (.tmp 39) = .pointer (some ⟨w.heap.size, 8, none⟩) := hD 17 39 (by kernel_rfl)
   have e39 : FA.tmps[39]?.getD undef = .pointer (some ⟨w.heap.size, 8, none⟩) := by simpa [Act.eval] using ev39
   replace ev39 := Lib.hid ev39
   clear hO hD ho
   go_simp
   exact hK.out _ _ (Ex.refl _) rfl
  | 19, _, ho, hO, hD, hK => 
   obtain rfl := qoi ho
   have ev40 : FA.eval (.tmp 40) = .agg #[.bool d6, .int .u64 (dh : Int), .int .u64 (dl : Int)] := hD 18 40 (by kernel_rfl)
   have e40 : FA.tmps[40]?.getD undef = .agg #[.bool d6, .int .u64 (dh : Int), .int .u64 (dl : Int)] := by simpa [Act.eval] using ev40
   replace ev40 := Lib.hid ev40
   clear hO hD ho
   go_simp
   refine (refAdrBytes d6 dh dl _ (by omega) (by omega)).mono ?_
   rintro e w1 ⟨A2, n2, c2, bs2, d2, rfl, rfl, ho2⟩
   exact hK.out _ _ (Ex.plus_ _ _ _) ⟨_, _, _, rfl, ho2.mono (by have := be.size; simp [size_plus]; omega)⟩
  | 20, _, ho, hO, hD, hK => 
   obtain rfl := qoi ho
   have ev22 : FA.eval (.tmp 22) = .slice (some ⟨w.heap.size + 1, 0, none⟩) 2 2 := hD 0 22 (by kernel_rfl)
   have e22 : FA.tmps[22]?.getD undef = .slice (some ⟨w.heap.size + 1, 0, none⟩) 2 2 := by simpa [Act.eval] using ev22
   replace ev22 := Lib.hid ev22
   have f26 := hD 4 26 (by kernel_rfl)
   generalize eu26 : FA.eval (.tmp 26) = u26 at f26
   have e26 : FA.tmps[26]?.getD undef = u26 := by rw [← eu26]; simp [Act.eval]
   have ev26 := Lib.hid eu26
   clear eu26
   have f30 := hD 8 30 (by kernel_rfl)
   generalize eu30 : FA.eval (.tmp 30) = u30 at f30
   have e30 : FA.tmps[30]?.getD undef = u30 := by rw [← eu30]; simp [Act.eval]
   have ev30 := Lib.hid eu30
   clear eu30
   have f35 := hD 13 35 (by kernel_rfl)
   generalize eu35 : FA.eval (.tmp 35) = u35 at f35
   have e35 : FA.tmps[35]?.getD undef = u35 := by rw [← eu35]; simp [Act.eval]
   have ev35 := Lib.hid eu35
   clear eu35
   have f38 := hD 16 38 (by kernel_rfl)
   generalize eu38 : FA.eval (.tmp 38) = u38 at f38
   have e38 : FA.tmps[38]?.getD undef = u38 := by rw [← eu38]; simp [Act.eval]
   have ev38 := Lib.hid eu38
   clear eu38
   have f41 := hD 19 41 (by kernel_rfl)
   generalize eu41 : FA.eval (.tmp 41) = u41 at f41
   have e41 : FA.tmps[41]?.getD undef = u41 := by rw [← eu41]; simp [Act.eval]
   have ev41 := Lib.hid eu41
   clear eu41
   clear hO hD ho
   obtain ⟨A26, n26, c26, rfl, h26⟩ := f26
   obtain ⟨A30, n30, c30, rfl, h30⟩ := f30
   obtain ⟨A35, n35, c35, rfl, h35⟩ := f35
   obtain ⟨A38, n38, c38, rfl, h38⟩ := f38
   obtain ⟨A41, n41, c41, rfl, h41⟩ := f41
   go_simp
   refine hK.out _ _ (Ex.alloc _ _) ⟨_, _, _, rfl, ?_⟩
   refine RdL.litW _ _ ?_ ?_
   ·simp [size_plus]
   ·exact .cons ⟨_, _, _, rfl, hr3.plus_ _ _⟩ (.cons ⟨_, _, _, rfl, h26⟩ (.cons ⟨_, _, _, rfl, h30⟩ (.cons ⟨_, _, _, rfl, h35⟩ (.cons ⟨_, _, _, rfl, h38.rb⟩ (.cons ⟨_, _, _, rfl, h41.rb⟩ (.nil))))))
  | 21, _, ho, hO, hD, hK => 
   obtain rfl := qoi ho
   have f42 := hD 20 42 (by kernel_rfl)
   generalize eu42 : FA.eval (.tmp 42) = u42 at f42
   have e42 : FA.tmps[42]?.getD undef = u42 := by rw [← eu42]; simp [Act.eval]
   have ev42 := Lib.hid eu42
   clear eu42
   clear hO hD ho
   obtain ⟨A1, m1, c1, rfl, hl1⟩ := f42
   have hm1 : m1 ≤ 100 := by obtain ⟨_, _, h2, _⟩ := hl1; simp only [List.length_cons, List.length_nil] at h2; omega
   go_simp
   refine (refJoin_any A1 m1 c1 _ _ hl1 (by omega) HT.out).mono ?_
   rintro e w1 ⟨A2, n2, c2, bs2, d2, rfl, rfl, ho2⟩
   exact hK.out _ _ (Ex.plus_ _ _ _) ⟨_, _, _, rfl, ho2.mono (by simp [size_plus]; omega)⟩
  | 22, _, ho, hO, hD, hK => 
   obtain rfl := qoi ho
   have f43 := hD 21 43 (by kernel_rfl)
   generalize eu43 : FA.eval (.tmp 43) = u43 at f43
   have e43 : FA.tmps[43]?.getD undef = u43 := by rw [← eu43]; simp [Act.eval]
   have ev43 := Lib.hid eu43
   clear eu43
   clear hO hD ho
   go_simp
   exact hK.out _ _ (Ex.refl _) f43
  | (k + 23), hi, _, _, _, _ => exact absurd hi (by omega)
 intro vs x hp
 have p0 : vs 0 = .slice (some ⟨w.heap.size + 1, 0, none⟩) 2 2 := hp 0 (by omega)
 have p1 : vs 1 = .pointer (some ⟨w.heap.size, 1, none⟩) := hp 1 (by omega)
 have p2 : vs 2 = .int .u32 (lb : Int) := hp 2 (by omega)
 have p3 : vs 3 = .int .u64 (lb : Int) := hp 3 (by omega)
 have p4 := hp 4 (by omega)
 have p5 : vs 5 = .pointer (some ⟨w.heap.size, 2, none⟩) := hp 5 (by omega)
 have p6 : vs 6 = .int .i64 (ln : Int) := hp 6 (by omega)
 have p7 : vs 7 = .int .u64 (ln : Int) := hp 7 (by omega)
 have p8 := hp 8 (by omega)
 have p9 : vs 9 = .pointer (some ⟨w.heap.size, 3, none⟩) := hp 9 (by omega)
 have p10 : vs 10 = .int .u8 (nx : Int) := hp 10 (by omega)
 have p11 : vs 11 = .pointer (some ⟨w.heap.size, 4, none⟩) := hp 11 (by omega)
 have p12 : vs 12 = .int .u8 (ht : Int) := hp 12 (by omega)
 have p13 := hp 13 (by omega)
 have p14 : vs 14 = .pointer (some ⟨w.heap.size, 5, none⟩) := hp 14 (by omega)
 have p15 : vs 15 = .agg #[.bool s6, .int .u64 (sh : Int), .int .u64 (sl : Int)] := hp 15 (by omega)
 have p16 := hp 16 (by omega)
 have p17 : vs 17 = .pointer (some ⟨w.heap.size, 8, none⟩) := hp 17 (by omega)
 have p18 : vs 18 = .agg #[.bool d6, .int .u64 (dh : Int), .int .u64 (dl : Int)] := hp 18 (by omega)
 have p19 := hp 19 (by omega)
 have p20 := hp 20 (by omega)
 have p21 := hp 21 (by omega)
 have p22 := hp 22 (by omega)
 clear hp
 simp only [List.take_succ_cons, List.take_zero, List.drop_succ_cons, List.drop_zero, putAll, Nat.zero_add, Nat.reduceAdd, Act.put, qsT, qsZ, qsS, p0, p1, p2, p3, p5, p6, p7, p9, p10, p11, p12, p14, p15, p17, p18]
 clear p0 p1 p2 p3 p5 p6 p7 p9 p10 p11 p12 p14 p15 p17 p18
 generalize vs 4 = y4 at *
 generalize vs 8 = y8 at *
 generalize vs 13 = y13 at *
 generalize vs 16 = y16 at *
 generalize vs 19 = y19 at *
 generalize vs 20 = y20 at *
 generalize vs 21 = y21 at *
 generalize vs 22 = y22 at *
 clear vs
 obtain ⟨A9, n9, c9, rfl, h9⟩ := p22
 go_wp2
 go_ret
 exact RetB.mk h9 (belowP be _ _)
def r6 (lb : Nat) (ln : Int) (s6 d6 : Bool) : Bool := decide (lb < 1048576) && (decide (0 ≤ ln) && (decide (ln < 65536) && (s6 && d6)))
theorem r6_true {lb : Nat} {ln : Int} {s6 d6 : Bool} : r6 lb ln s6 d6 = true ↔ lb < 1048576 ∧ 0 ≤ ln ∧ ln < 65536 ∧ s6 = true ∧ d6 = true := by
 simp [r6]
set_option maxHeartbeats 2000000 in
set_option maxRecDepth 100000 in
theorem ip6Right (cl lb : Nat) (ln : Int) (nx ht : Nat) (s6 : Bool) (sh sl : Nat) (d6 : Bool) (dh dl : Nat) (w : World) (hl : lb < 4294967296) (hi : -9223372036854775808 ≤ ln ∧ ln ≤ 9223372036854775807) : Calls Tryz.prog 62 #[.agg #[.int .u8 (cl : Int), .int .u32 (lb : Int), .int .i64 ln, .int .u8 (nx : Int), .int .u8 (ht : Int), .bool s6, .int .u64 (sh : Int), .int .u64 (sl : Int), .bool d6, .int .u64 (dh : Int), .int .u64 (dl : Int)]] w (RetV w (.bool (r6 lb ln s6 d6))) := by
 unfold r6
 by_cases c1 : lb < 1048576
 ·have t1 : decide (lb ≤ 1048575) = true := by simp; omega
  by_cases c2 : 0 ≤ ln
  ·have t2 : decide (0 ≤ ln) = true := by simpa using c2
   by_cases c3 : ln < 65536
   ·have t3 : decide (ln ≤ 65535) = true := by simp; omega
    cases s6
    ·go_enter Tryz.func62, Tryz.ntmps62
     go_wp2
     go_ret
     exact RetV.is_ (by simp) (Below.allocS (Below.refl _ _) _)
    ·go_enter Tryz.func62, Tryz.ntmps62
     go_wp2
     go_ret
     exact RetV.is_ (by simp [c1, c2, c3]) (Below.allocS (Below.refl _ _) _)
   ·have t3 : decide (ln ≤ 65535) = false := by simp; omega
    go_enter Tryz.func62, Tryz.ntmps62
    go_wp2
    go_ret
    exact RetV.is_ (by simp; intros; omega) (Below.allocS (Below.refl _ _) _)
  ·have t2 : decide (0 ≤ ln) = false := by simpa using c2
   go_enter Tryz.func62, Tryz.ntmps62
   go_wp2
   go_ret
   exact RetV.is_ (by simp [c2]) (Below.allocS (Below.refl _ _) _)
 ·have t1 : decide (lb ≤ 1048575) = false := by simp; omega
  go_enter Tryz.func62, Tryz.ntmps62
  go_wp2
  go_ret
  exact RetV.is_ (by simp [c1]) (Below.allocS (Below.refl _ _) _)
set_option maxHeartbeats 2000000 in
set_option maxRecDepth 100000 in
theorem refIp6Right (cl lb : Nat) (ln : Int) (nx ht : Nat) (s6 : Bool) (sh sl : Nat) (d6 : Bool) (dh dl : Nat) (w : World) (hl : lb < 4294967296) (hi : -9223372036854775808 ≤ ln ∧ ln ≤ 9223372036854775807) : Calls Tryz.prog 81 #[.agg #[.int .u8 (cl : Int), .int .u32 (lb : Int), .int .i64 ln, .int .u8 (nx : Int), .int .u8 (ht : Int), .bool s6, .int .u64 (sh : Int), .int .u64 (sl : Int), .bool d6, .int .u64 (dh : Int), .int .u64 (dl : Int)]] w (RetV w (.bool (r6 lb ln s6 d6))) := by
 unfold r6
 by_cases c1 : lb < 1048576
 ·have t1 : decide ((lb : Int) < 1048576) = true := by simp; omega
  by_cases c2 : 0 ≤ ln
  ·have t2 : decide (0 ≤ ln) = true := by simpa using c2
   by_cases c3 : ln < 65536
   ·have t3 : decide (ln < 65536) = true := by simpa using c3
    cases s6
    ·go_enter Tryz.func81, Tryz.ntmps81
     go_wp2
     go_ret
     exact RetV.is_ (by simp) (Below.allocS (Below.refl _ _) _)
    ·go_enter Tryz.func81, Tryz.ntmps81
     go_wp2
     go_ret
     exact RetV.is_ (by simp [c1, c2, c3]) (Below.allocS (Below.refl _ _) _)
   ·have t3 : decide (ln < 65536) = false := by simpa using c3
    go_enter Tryz.func81, Tryz.ntmps81
    go_wp2
    go_ret
    exact RetV.is_ (by simp [c3]) (Below.allocS (Below.refl _ _) _)
  ·have t2 : decide (0 ≤ ln) = false := by simpa using c2
   go_enter Tryz.func81, Tryz.ntmps81
   go_wp2
   go_ret
   exact RetV.is_ (by simp [c2]) (Below.allocS (Below.refl _ _) _)
 ·have t1 : decide ((lb : Int) < 1048576) = false := by simp; omega
  go_enter Tryz.func81, Tryz.ntmps81
  go_wp2
  go_ret
  exact RetV.is_ (by simp [c1]) (Below.allocS (Below.refl _ _) _)
def ip6B (cl lb ln nx ht : Nat) (sh sl dh dl : Nat) : List UInt8 := dig (1610612736 + cl * 1048576 + lb) 4 ++ dig ln 2 ++ dig nx 1 ++ dig ht 1 ++ (dig sh 8 ++ dig sl 8) ++ (dig dh 8 ++ dig dl 8)
theorem ip6B_length (cl lb ln nx ht : Nat) (sh sl dh dl : Nat) : (ip6B cl lb ln nx ht sh sl dh dl).length = 40 := by simp [ip6B, dig_length]
theorem ip6R_B (cl lb ln nx ht : Nat) (sh sl dh dl : Nat) (h1 : cl < 256) (h2 : lb < 1048576) (h4 : nx < 256) (h5 : ht < 256) : ip6R (96 + cl / 16) (cl % 16 * 16 + lb / 65536) lb ln nx ht true sh sl true dh dl = ip6B cl lb ln nx ht sh sl dh dl := by
 have e : dig (1610612736 + cl * 1048576 + lb) 4 = [UInt8.ofNat (96 + cl / 16), UInt8.ofNat (cl % 16 * 16 + lb / 65536)] ++ dig lb 2 := by
  simp only [dig, List.nil_append, List.cons_append, List.append_assoc]
  rw [ofNat_eq ((1610612736 + cl * 1048576 + lb) / 256 / 256 / 256 % 256) (96 + cl / 16) (by omega), ofNat_eq ((1610612736 + cl * 1048576 + lb) / 256 / 256 % 256) (cl % 16 * 16 + lb / 65536) (by omega), ofNat_eq ((1610612736 + cl * 1048576 + lb) / 256 % 256) (lb / 256 % 256) (by omega), ofNat_eq ((1610612736 + cl * 1048576 + lb) % 256) (lb % 256) (by omega)]
 unfold ip6B ip6R
 rw [e, dig1 nx h4, dig1 ht h5]
 simp [adrB]
theorem first_or (cl lb : Nat) (h1 : cl < 256) (h2 : lb < 1048576) : bits .or .u64 (bits .or .u64 1610612736 ((cl : Int) * 1048576)) (lb : Int) = ((1610612736 + cl * 1048576 + lb : Nat) : Int) := by
 have e1 := u64_or_nat 1610612736 (cl * 1048576) (by omega) (by omega)
 rw [nat_join 28 1610612736 (cl * 1048576) (by decide) (by omega)] at e1
 have e1' : bits .or .u64 1610612736 ((cl : Int) * 1048576) = ((1610612736 + cl * 1048576 : Nat) : Int) := by simpa using e1
 rw [e1', u64_or_nat _ _ (by omega) (by omega), nat_join 20 _ _ (by omega) (by omega)]
theorem ip6Bytes_yes (cl lb ln nx ht : Nat) (sh sl dh dl : Nat) (w : World) (h1 : cl < 256) (h2 : lb < 1048576) (h3 : ln < 65536) (h4 : nx < 256) (h5 : ht < 256) (k1 : sh < 18446744073709551616) (k2 : sl < 18446744073709551616) (k3 : dh < 18446744073709551616) (k4 : dl < 18446744073709551616) : Calls Tryz.prog 63 #[.agg #[.int .u8 (cl : Int), .int .u32 (lb : Int), .int .i64 (ln : Int), .int .u8 (nx : Int), .int .u8 (ht : Int), .bool true, .int .u64 (sh : Int), .int .u64 (sl : Int), .bool true, .int .u64 (dh : Int), .int .u64 (dl : Int)]] w (RetB w (ip6B cl lb ln nx ht sh sl dh dl)) := by
 have HR := Lib.hid (fun w => ip6Right cl lb (ln : Int) nx ht true sh sl true dh dl w (by omega) (by omega))
 rw [show r6 lb (ln : Int) true true = true from r6_true.2 ⟨h2, by omega, by omega, rfl, rfl⟩] at HR
 have HO := first_or cl lb h1 h2
 have hX : 1610612736 + cl * 1048576 + lb < 18446744073709551616 := by omega
 unfold ip6B
 generalize 1610612736 + cl * 1048576 + lb = X at *
 go_enter Tryz.func63, Tryz.ntmps63
 go_wp2_with fail
 refine (HR.out _).mono ?_
 rintro e w1 ⟨bs0, m0, rfl, rfl⟩
 go_wp2_with fail
 refine (put_full _ _ _ [] X 4 _ Rb.nil_ (by omega) (by omega) (by omega) (by omega)).mono ?_
 rintro e w1 ⟨A1, n1, bs1, m1, rfl, rfl, ho1⟩
 have l1 : n1 ≤ 100 := by rw [← ho1.1]; simp [dig_length]
 go_wp2_with fail
 refine (put_full _ _ _ _ ln 2 _ ho1.rb (by omega) (by omega) (by omega) (by omega)).mono ?_
 rintro e w1 ⟨A2, n2, bs2, m2, rfl, rfl, ho2⟩
 have l2 : n2 ≤ 100 := by rw [← ho2.1]; simp [dig_length]
 go_wp2_with fail
 refine (put_full _ _ _ _ nx 1 _ ho2.rb (by omega) (by omega) (by omega) (by omega)).mono ?_
 rintro e w1 ⟨A3, n3, bs3, m3, rfl, rfl, ho3⟩
 have l3 : n3 ≤ 100 := by rw [← ho3.1]; simp [dig_length]
 go_wp2_with fail
 refine (put_full _ _ _ _ ht 1 _ ho3.rb (by omega) (by omega) (by omega) (by omega)).mono ?_
 rintro e w1 ⟨A4, n4, bs4, m4, rfl, rfl, ho4⟩
 have l4 : n4 ≤ 100 := by rw [← ho4.1]; simp [dig_length]
 go_wp2_with fail
 refine (adrBytes_any true sh sl _ k1 k2).mono ?_
 rintro e w1 ⟨A5, n5, bs5, m5, rfl, rfl, ho5⟩
 have l5 : n5 ≤ 100 := by rw [← ho5.1]; have := adrB_length true sh sl; omega
 go_wp2_with (at_builtin; refine wpList_appP _ bt rfl (.tmp 32) (.tmp 35) rfl (by exact belowP (below_plus _ bs4 m4) bs5 m5) rfl (ho4.plus_ bs5 m5) rfl ho5.rb (by omega) ?_; intro A6 n6 k6 bs6 m6 ho6 hg6)
 have l6 : n6 ≤ 300 := by rw [← ho6.1]; have := adrB_length true sh sl; simp [dig_length]; omega
 refine (adrBytes_any true dh dl _ k3 k4).mono ?_
 rintro e w1 ⟨A7, n7, bs7, m7, rfl, rfl, ho7⟩
 have l7 : n7 ≤ 100 := by rw [← ho7.1]; have := adrB_length true dh dl; omega
 go_wp2_with (at_builtin; refine wpList_appP _ bt rfl (.tmp 37) (.tmp 40) rfl (by exact belowP (below_plus _ bs6 m6) bs7 m7) rfl (ho6.plus_ bs7 m7) rfl ho7.rb (by omega) ?_; intro A8 n8 k8 bs8 m8 ho8 hg8)
 go_ret
 refine RetB.mk ?_ (belowP (belowP (belowP (belowP (belowP (Below.allocS (Below.refl _ _) _) _ _) _ _) _ _) _ _) _ _)
 simpa [adrB] using ho8.mono (base' := w.heap.size) (by simp [size_plus]; omega)
end

section
open Go.RowKit
attribute [local go_sem ↓] sliced_cut
attribute [local go_sem] cutA_zero
def h6C (cl lb : Nat) (ln : Int) (nx ht : Nat) (s6 : Bool) (sh sl : Nat) (d6 : Bool) (dh dl : Nat) : List Value := [.int .u8 (cl : Int), .int .u32 (lb : Int), .int .i64 ln, .int .u8 (nx : Int), .int .u8 (ht : Int), .bool s6, .int .u64 (sh : Int), .int .u64 (sl : Int), .bool d6, .int .u64 (dh : Int), .int .u64 (dl : Int)]
theorem h6C_one (cl lb : Nat) (ln : Int) (nx ht : Nat) (s6 : Bool) (sh sl : Nat) (d6 : Bool) (dh dl : Nat) : ∀ u ∈ h6C cl lb ln nx ht s6 sh sl d6 dh dl, u.oneCell' = true := by
 intro u hu
 simp only [h6C, List.mem_cons, List.not_mem_nil, or_false] at hu
 rcases hu with rfl | rfl | rfl | rfl | rfl | rfl | rfl | rfl | rfl | rfl | rfl <;> rfl
theorem szH6 (cl lb : Nat) (ln : Int) (nx ht : Nat) (s6 : Bool) (sh sl : Nat) (d6 : Bool) (dh dl : Nat) : (Tryz.prog.info? 94).map (·.size) = some (h6C cl lb ln nx ht s6 sh sl d6 dh dl).length := by kernel_rfl
theorem rowH6 : ∃ d, Tryz.prog.underlying 94 = some d ∧ d.isRow = true := ⟨_, Tryz.underlying94, rfl⟩
theorem u32_mask20 (x : Nat) (h : x < 4294967296) : bits .and .u32 (x : Int) 1048575 = ((x % 1048576 : Nat) : Int) := by
 have := u32_and_nat x 1048575 h (by decide)
 rw [show (1048575 : Nat) = 2 ^ 20 - 1 from rfl, Nat.and_two_pow_sub_one_eq_mod] at this
 exact this
set_option maxHeartbeats 4000000 in
set_option maxRecDepth 100000 in
theorem ip6Header (cl lb ln nx ht sh sl dh dl : Nat) (A : Option Addr) (n c : Nat) (load : List UInt8) (w : World) (h1 : cl < 256) (h2 : lb < 1048576) (h3 : ln < 65536) (h4 : nx < 256) (h5 : ht < 256) (k1 : sh < 18446744073709551616) (k2 : sl < 18446744073709551616) (k3 : dh < 18446744073709551616) (k4 : dl < 18446744073709551616) (h : Rb w A n c (ip6B cl lb ln nx ht sh sl dh dl ++ load)) (hn : ln ≤ load.length) (hm : n ≤ 2000000) :
  Calls Tryz.prog 61 #[.slice A n c] w (RetV w (.tuple #[.agg (h6C cl lb (ln : Int) nx ht true sh sl true dh dl).toArray, .int .i64 0])) := by
 obtain ⟨dk, u1, u2⟩ := rowH6
 have hlen : n = 40 + load.length := by rw [← h.1, List.length_append, ip6B_length]
 have hc := h.2.1
 have h40 : (40 : Int) ≤ (n : Int) := by omega
 have h40c : (40 : Int) ≤ (c : Int) := by omega
 have hln : ((n : Int) - 40 < (ln : Int)) = False := eq_false (by omega)
 have hdl : decide ((n : Int) - 40 < (ln : Int)) = false := by simp; omega
 have ht40 : Rb w A 40 c (ip6B cl lb ln nx ht sh sl dh dl) := by
  have := h.take (k := 40) (by omega)
  rwa [List.take_left' (ip6B_length _ _ _ _ _ _ _ _ _)] at this
 have x0 : num (((ip6B cl lb ln nx ht sh sl dh dl).drop 0).take 4) = (1610612736 + cl * 1048576 + lb) := by unfold ip6B; have := num_mid ([]) (dig ln 2 ++ dig nx 1 ++ dig ht 1 ++ (dig sh 8 ++ dig sl 8) ++ (dig dh 8 ++ dig dl 8)) (1610612736 + cl * 1048576 + lb) 4 0 (by simp [dig_length]) (by omega); simpa [List.append_assoc] using this
 have x1 : num (((ip6B cl lb ln nx ht sh sl dh dl).drop 4).take 2) = ln := by unfold ip6B; have := num_mid (dig (1610612736 + cl * 1048576 + lb) 4) (dig nx 1 ++ dig ht 1 ++ (dig sh 8 ++ dig sl 8) ++ (dig dh 8 ++ dig dl 8)) ln 2 4 (by simp [dig_length]) (by omega); simpa [List.append_assoc] using this
 have x2 : num (((ip6B cl lb ln nx ht sh sl dh dl).drop 6).take 1) = nx := by unfold ip6B; have := num_mid (dig (1610612736 + cl * 1048576 + lb) 4 ++ dig ln 2) (dig ht 1 ++ (dig sh 8 ++ dig sl 8) ++ (dig dh 8 ++ dig dl 8)) nx 1 6 (by simp [dig_length]) (by omega); simpa [List.append_assoc] using this
 have x3 : num (((ip6B cl lb ln nx ht sh sl dh dl).drop 7).take 1) = ht := by unfold ip6B; have := num_mid (dig (1610612736 + cl * 1048576 + lb) 4 ++ dig ln 2 ++ dig nx 1) ((dig sh 8 ++ dig sl 8) ++ (dig dh 8 ++ dig dl 8)) ht 1 7 (by simp [dig_length]) (by omega); simpa [List.append_assoc] using this
 have y0 : ((ip6B cl lb ln nx ht sh sl dh dl).drop 8).take 16 = dig sh 8 ++ dig sl 8 := by
  unfold ip6B
  rw [List.append_assoc, List.drop_left' (by simp [dig_length]), List.take_left' (by simp [dig_length])]
 have y1 : ((ip6B cl lb ln nx ht sh sl dh dl).drop 24).take 16 = dig dh 8 ++ dig dl 8 := by
  unfold ip6B
  rw [List.drop_left' (by simp [dig_length]), List.take_of_length_le (by simp [dig_length])]
 have hXl : 1610612736 + cl * 1048576 + lb < 4294967296 := by omega
 have hand := u32_mask20 (1610612736 + cl * 1048576 + lb) hXl
 have e1 : (1610612736 + cl * 1048576 + lb) % 1048576 = lb := by omega
 rw [e1] at hand
 have e2 : ((1610612736 + cl * 1048576 + lb : Nat) : Int) / 268435456 = 6 := by omega
 have e3 : ((1610612736 + cl * 1048576 + lb : Nat) : Int) / 1048576 % 256 = (cl : Int) := by omega
 have hBl : (ip6B cl lb ln nx ht sh sl dh dl).length = 40 := ip6B_length _ _ _ _ _ _ _ _ _
 have HR := Lib.hid (fun W (h : Rb W A 40 c (ip6B cl lb ln nx ht sh sl dh dl)) => readK A 40 c (ip6B cl lb ln nx ht sh sl dh dl) W h (by omega))
 clear h e1 hlen
 generalize 1610612736 + cl * 1048576 + lb = X at *
 generalize ip6B cl lb ln nx ht sh sl dh dl = B at *
 replace x0 := Lib.hid x0
 replace x1 := Lib.hid x1
 replace x2 := Lib.hid x2
 replace x3 := Lib.hid x3
 replace y0 := Lib.hid y0
 replace y1 := Lib.hid y1
 have hB1 : B.length ≤ 40 := by omega
 have hB2 : 40 ≤ B.length := by omega
 clear hBl
 have b2 : Bk (w.alloc (.cells #[.int .u8 0, .int .u32 0, .int .i64 0, .int .u8 0, .int .u8 0, .bool false, .int .u64 0, .int .u64 0, .bool false, .int .u64 0, .int .u64 0] 94)) w.heap.size 94 (h6C 0 0 0 0 0 false 0 0 false 0 0) := Bk.new w 94 #[.int .u8 0, .int .u32 0, .int .i64 0, .int .u8 0, .int .u8 0, .bool false, .int .u64 0, .int .u64 0, .bool false, .int .u64 0, .int .u64 0]
 have be : Below w.heap.size w (w.alloc (.cells #[.int .u8 0, .int .u32 0, .int .i64 0, .int .u8 0, .int .u8 0, .bool false, .int .u64 0, .int .u64 0, .bool false, .int .u64 0, .int .u64 0] 94)) := Below.allocS (Below.refl _ _) _
 go_enter Tryz.func61, Tryz.ntmps61
 go_wp2_with fail
 refine (HR.out _ (ht40.alloc _)).mono ?_
 rintro e w1 ⟨r, bs1, d1, rfl, rfl, hr1, hR⟩
 replace b2 := b2.later (below_plus _ bs1 d1)
 replace be := belowP be bs1 d1
 have hr2 : w.heap.size < r := by simp at hr1; omega
 generalize plus (w.alloc (.cells #[.int .u8 0, .int .u32 0, .int .i64 0, .int .u8 0, .int .u8 0, .bool false, .int .u64 0, .int .u64 0, .bool false, .int .u64 0, .int .u64 0] 94)) bs1 d1 = W at *
 clear hr1
 go_wp2_with fail
 refine (longG W r B 0 X hR (by omega) (by omega) x0.out).mono ?_
 rintro e W1 ⟨rfl, hR1, hg1⟩
 replace b2 := b2.grown hg1 (by simp; omega)
 replace be := below_grown be hg1 (by omega)
 clear hg1 hR
 have zr := hR1.lt
 go_wp2_with fail
 have b6 : Bk (W1.alloc (.cells #[.int .u8 (cl : Int), .int .u32 (lb : Int), .int .i64 0, .int .u8 0, .int .u8 0, .bool false, .int .u64 0, .int .u64 0, .bool false, .int .u64 0, .int .u64 0] 94)) W1.heap.size 94 [.int .u8 (cl : Int), .int .u32 (lb : Int), .int .i64 0, .int .u8 0, .int .u8 0, .bool false, .int .u64 0, .int .u64 0, .bool false, .int .u64 0, .int .u64 0] := Bk.new W1 94 _
 replace b2 := b2.alloc (.cells #[.int .u8 (cl : Int), .int .u32 (lb : Int), .int .i64 0, .int .u8 0, .int .u8 0, .bool false, .int .u64 0, .int .u64 0, .bool false, .int .u64 0, .int .u64 0] 94)
 replace be := Below.allocS be (.cells #[.int .u8 (cl : Int), .int .u32 (lb : Int), .int .i64 0, .int .u8 0, .int .u8 0, .bool false, .int .u64 0, .int .u64 0, .bool false, .int .u64 0, .int .u64 0] 94)
 replace hR1 := hR1.later ((Below.refl _ _).alloc (Nat.le_refl _) (.cells #[.int .u8 (cl : Int), .int .u32 (lb : Int), .int .i64 0, .int .u8 0, .int .u8 0, .bool false, .int .u64 0, .int .u64 0, .bool false, .int .u64 0, .int .u64 0] 94))
 generalize W1.alloc (.cells #[.int .u8 (cl : Int), .int .u32 (lb : Int), .int .i64 0, .int .u8 0, .int .u8 0, .bool false, .int .u64 0, .int .u64 0, .bool false, .int .u64 0, .int .u64 0] 94) = W2 at *
 have zg : w.heap.size < W1.heap.size := by omega
 generalize W1.heap.size = g6 at *
 clear e2 e3 hand hXl x0 W
 refine (wordG W2 r B 4 ln hR1 (by omega) (by omega) x1.out).mono ?_
 clear x1
 rintro e W3 ⟨rfl, hR2, hg2⟩
 replace b2 := b2.grown hg2 (by simp; omega)
 replace b6 := b6.grown hg2 (by simp; omega)
 replace be := below_grown be hg2 (by omega)
 clear hg2 hR1
 have q := b6.cell 2
 have fr := b6.frozen 2
 have z6 := b6.lt
 simp only [List.getElem?_cons_succ, List.getElem?_cons_zero] at q
 go_wp2_with fail
 replace b6 := b6.set_ 2 (.int .i64 (ln : Int))
 replace b2 := b2.far (p := ⟨g6, 2, none⟩) (by simp; omega) (.int .i64 (ln : Int))
 have hR1 := hR2.far (p := ⟨g6, 2, none⟩) (by simp; omega) (.int .i64 (ln : Int))
 replace be := be.setCell (p := ⟨g6, 2, none⟩) (by simp; omega) (.int .i64 (ln : Int))
 simp only [List.set_cons_succ, List.set_cons_zero] at b6
 clear q fr z6 hR2
 generalize W3.setCell ⟨g6, 2, none⟩ (.int .i64 (ln : Int)) = W3s at *
 clear hdl
 refine (byteG W3s r B 6 nx hR1 (by omega) (by omega) x2.out).mono ?_
 clear x2
 rintro e W4 ⟨rfl, hR2, hg2⟩
 replace b2 := b2.grown hg2 (by simp; omega)
 replace b6 := b6.grown hg2 (by simp; omega)
 replace be := below_grown be hg2 (by omega)
 clear hg2 hR1
 have q := b6.cell 3
 have fr := b6.frozen 3
 have z6 := b6.lt
 simp only [List.getElem?_cons_succ, List.getElem?_cons_zero] at q
 go_wp2_with fail
 replace b6 := b6.set_ 3 (.int .u8 (nx : Int))
 replace b2 := b2.far (p := ⟨g6, 3, none⟩) (by simp; omega) (.int .u8 (nx : Int))
 have hR1 := hR2.far (p := ⟨g6, 3, none⟩) (by simp; omega) (.int .u8 (nx : Int))
 replace be := be.setCell (p := ⟨g6, 3, none⟩) (by simp; omega) (.int .u8 (nx : Int))
 simp only [List.set_cons_succ, List.set_cons_zero] at b6
 clear q fr z6 hR2
 generalize W4.setCell ⟨g6, 3, none⟩ (.int .u8 (nx : Int)) = W4s at *
 refine (byteG W4s r B 7 ht hR1 (by omega) (by omega) x3.out).mono ?_
 clear x3
 rintro e W5 ⟨rfl, hR2, hg2⟩
 replace b2 := b2.grown hg2 (by simp; omega)
 replace b6 := b6.grown hg2 (by simp; omega)
 replace be := below_grown be hg2 (by omega)
 clear hg2 hR1
 have q := b6.cell 4
 have fr := b6.frozen 4
 have z6 := b6.lt
 simp only [List.getElem?_cons_succ, List.getElem?_cons_zero] at q
 go_wp2_with fail
 replace b6 := b6.set_ 4 (.int .u8 (ht : Int))
 replace b2 := b2.far (p := ⟨g6, 4, none⟩) (by simp; omega) (.int .u8 (ht : Int))
 have hR1 := hR2.far (p := ⟨g6, 4, none⟩) (by simp; omega) (.int .u8 (ht : Int))
 replace be := be.setCell (p := ⟨g6, 4, none⟩) (by simp; omega) (.int .u8 (ht : Int))
 simp only [List.set_cons_succ, List.set_cons_zero] at b6
 clear q fr z6 hR2
 generalize W5.setCell ⟨g6, 4, none⟩ (.int .u8 (ht : Int)) = W5s at *
 refine (bytesG W5s r B 8 16 hR1 (by omega) (by omega)).mono ?_
 rintro e W6 ⟨Aa, na, ca, rfl, hoa, hR2, hg2⟩
 rw [y0.out] at hoa
 obtain rfl : na = 16 := by rw [← hoa.1]; simp [dig_length]
 replace b2 := b2.grown hg2 (by simp; omega)
 replace b6 := b6.grown hg2 (by simp; omega)
 replace be := below_grown be hg2 (by omega)
 clear hg2 hR1
 have z6 := b6.lt
 have zr := hR2.lt
 go_wp2_with fail
 refine (adrOf16 sh sl _ _ _ k1 k2 hoa.rb).mono ?_
 rintro e w1 ⟨bsa, da, rfl, rfl⟩
 replace b6 := b6.later (below_plus _ bsa da)
 replace b2 := b2.later (below_plus _ bsa da)
 replace be := belowP be bsa da
 replace hR2 := hR2.later (below_plus _ bsa da)
 clear hoa
 generalize plus W6 bsa da = W6p at *
 go_upto_region 14 with (refine at_op (.store 24 (.tmp 49) (.tmp 47)) rfl ?_; refine wpList_stM (t := 94) 24 (.tmp 49) (.tmp 47) rfl rfl (adC true sh sl) _ (by simp [adC]) (adC_one _ _ _) rfl rfl b6 (szAd _ _ _) ?_; intro W6s b6' hg3)
 simp only [splice, adC, List.take_succ_cons, List.take_zero, List.drop_succ_cons, List.drop_zero, List.length_cons, List.length_nil, Nat.zero_add, Nat.reduceAdd, List.cons_append, List.nil_append] at b6'
 replace b2 := b2.grown hg3 (by simp; omega)
 have hR1 := hR2.far_ hg3 (by omega)
 replace be := below_grown be hg3 (by omega)
 clear b6 hR2 hg3 z6 zr
 have b6 := b6'
 clear b6'
 go_wp2_with fail
 refine (bytesG W6s r B 24 16 hR1 (by omega) (by omega)).mono ?_
 rintro e W7 ⟨Aa, na, ca, rfl, hoa, hR2, hg2⟩
 rw [y1.out] at hoa
 obtain rfl : na = 16 := by rw [← hoa.1]; simp [dig_length]
 replace b2 := b2.grown hg2 (by simp; omega)
 replace b6 := b6.grown hg2 (by simp; omega)
 replace be := below_grown be hg2 (by omega)
 clear hg2 hR1
 have z6 := b6.lt
 have zr := hR2.lt
 go_wp2_with fail
 refine (adrOf16 dh dl _ _ _ k3 k4 hoa.rb).mono ?_
 rintro e w1 ⟨bsa, da, rfl, rfl⟩
 replace b6 := b6.later (below_plus _ bsa da)
 replace b2 := b2.later (below_plus _ bsa da)
 replace be := belowP be bsa da
 replace hR2 := hR2.later (below_plus _ bsa da)
 clear hoa
 generalize plus W7 bsa da = W7p at *
 go_upto_region 15 with (refine at_op (.store 24 (.tmp 56) (.tmp 54)) rfl ?_; refine wpList_stM (t := 94) 24 (.tmp 56) (.tmp 54) rfl rfl (adC true dh dl) _ (by simp [adC]) (adC_one _ _ _) rfl rfl b6 (szAd _ _ _) ?_; intro W7s b6' hg3)
 simp only [splice, adC, List.take_succ_cons, List.take_zero, List.drop_succ_cons, List.drop_zero, List.length_cons, List.length_nil, Nat.zero_add, Nat.reduceAdd, List.cons_append, List.nil_append] at b6'
 replace b2 := b2.grown hg3 (by simp; omega)
 have hR1 := hR2.far_ hg3 (by omega)
 replace be := below_grown be hg3 (by omega)
 clear b6 hR2 hg3 z6 zr
 have b6 := b6'
 clear b6'
 go_wp2_with (first
  | (refine at_op (.load 94 (.tmp 6)) rfl ?_; refine wpList_ldA (t := 94) 94 (.tmp 6) rfl rfl (h6C cl lb (ln : Int) nx ht true sh sl true dh dl) rfl b6 (whole_ _) u1 u2 (szH6 _ _ _ _ _ _ _ _ _ _ _) ?_)
  | (refine at_op (.store 94 (.tmp 2) (.tmp 57)) rfl ?_; refine wpList_stA (t := 94) 94 (.tmp 2) (.tmp 57) rfl rfl (h6C cl lb (ln : Int) nx ht true sh sl true dh dl) (h6C 0 0 0 0 0 false 0 0 false 0 0) rfl (h6C_one _ _ _ _ _ _ _ _ _ _ _) rfl rfl b2 (szH6 _ _ _ _ _ _ _ _ _ _ _) ?_; intro W9 h9 g9))
 refine bodyPost_agg2 Tryz.results61 rfl rfl h9.range u1 u2 (szH6 _ _ _ _ _ _ _ _ _ _ _) rfl (RetV.mk ?_)
 exact below_grown be g9 (by omega)
end

section
open Go.RowKit
attribute [local go_sem ↓] sliced_cut
attribute [local go_sem] cutA_zero
def RetH (w : World) (cs : List Value) (l : List UInt8) (e : Ending) (w' : World) : Prop := ∃ A n c bs d, e = .returned (.tuple #[.agg cs.toArray, .slice A n c, .int .i64 0]) ∧ w' = plus w bs d ∧ Ob (plus w bs d) w.heap.size A n c l
theorem RetH.mk {w w' : World} {cs : List Value} {l : List UInt8} {A : Option Addr} {n c : Nat} (h : Ob w' w.heap.size A n c l) (hb : Below w.heap.size w w') : RetH w cs l (.returned (.tuple #[.agg cs.toArray, .slice A n c, .int .i64 0])) w' := by
 obtain ⟨bs, d, rfl⟩ := plus_of hb
 exact ⟨A, n, c, bs, d, rfl, rfl, h⟩
set_option maxHeartbeats 2000000 in
set_option maxRecDepth 100000 in
theorem ip6Packet_yes (cl lb : Nat) (l0 : Int) (nx ht sh sl dh dl : Nat) (A : Option Addr) (ln c : Nat) (load : List UInt8) (w : World) (h1 : cl < 256) (h2 : lb < 1048576) (h3 : ln < 65536) (h4 : nx < 256) (h5 : ht < 256) (k1 : sh < 18446744073709551616) (k2 : sl < 18446744073709551616) (k3 : dh < 18446744073709551616) (k4 : dl < 18446744073709551616) (h : Rb w A ln c load) :
  Calls Tryz.prog 41 #[.agg (h6C cl lb l0 nx ht true sh sl true dh dl).toArray, .slice A ln c] w (RetBE w (ip6B cl lb ln nx ht sh sl dh dl ++ load) 0) := by
 have HR := Lib.hid (fun w => ip6Right cl lb (ln : Int) nx ht true sh sl true dh dl w (by omega) (by omega))
 rw [show r6 lb (ln : Int) true true = true from r6_true.2 ⟨h2, by omega, by omega, rfl, rfl⟩] at HR
 have HB := Lib.hid (fun w => ip6Bytes_yes cl lb ln nx ht sh sl dh dl w h1 h2 h3 h4 h5 k1 k2 k3 k4)
 unfold h6C
 go_enter Tryz.func41, Tryz.ntmps41
 go_wp2_with fail
 refine (HR.out _).mono ?_
 rintro e w1 ⟨bs1, d1, rfl, rfl⟩
 go_wp2_with fail
 refine (HB.out _).mono ?_
 rintro e w1 ⟨A2, n2, c2, bs2, d2, rfl, rfl, ho2⟩
 obtain rfl : n2 = 40 := by rw [← ho2.1, ip6B_length]
 go_wp2_with (at_builtin; refine wpList_appP _ bt rfl (.tmp 16) (.tmp 17) rfl (by exact below_plus _ bs2 d2) rfl ho2 rfl (by exact ((h.alloc _).plus_ _ _).plus_ _ _) (by omega) ?_; intro A3 n3 k3 bs3 m3 ho3 hg3)
 go_ret2
 exact RetBE.mk ho3.rb (belowP (belowP (Below.allocS (Below.refl _ _) _) _ _) _ _)
set_option maxHeartbeats 2000000 in
set_option maxRecDepth 100000 in
theorem refIp6Packet_yes (cl lb : Nat) (l0 : Int) (nx ht sh sl dh dl : Nat) (A : Option Addr) (ln c : Nat) (load : List UInt8) (w : World) (h1 : cl < 256) (h2 : lb < 1048576) (h3 : ln < 65536) (h4 : nx < 256) (h5 : ht < 256) (k1 : sh < 18446744073709551616) (k2 : sl < 18446744073709551616) (k3 : dh < 18446744073709551616) (k4 : dl < 18446744073709551616) (h : Rb w A ln c load) :
  Calls Tryz.prog 57 #[.agg (h6C cl lb l0 nx ht true sh sl true dh dl).toArray, .slice A ln c] w (RetBE w (ip6B cl lb ln nx ht sh sl dh dl ++ load) 0) := by
 have HR := Lib.hid (fun w => refIp6Right cl lb (ln : Int) nx ht true sh sl true dh dl w (by omega) (by omega))
 rw [show r6 lb (ln : Int) true true = true from r6_true.2 ⟨h2, by omega, by omega, rfl, rfl⟩] at HR
 have HB := Lib.hid (fun w => refIp6Bytes cl lb ln nx ht true sh sl true dh dl w h1 h2 h3 h4 h5 k1 k2 k3 k4)
 rw [ip6R_B cl lb ln nx ht sh sl dh dl h1 h2 h4 h5] at HB
 unfold h6C
 go_enter Tryz.func57, Tryz.ntmps57
 go_wp2_with fail
 refine (HR.out _).mono ?_
 rintro e w1 ⟨bs1, d1, rfl, rfl⟩
 go_wp2_with fail
 refine (HB.out _).mono ?_
 rintro e w1 ⟨A2, n2, c2, bs2, d2, rfl, rfl, ho2⟩
 obtain rfl : n2 = 40 := by rw [← ho2.1, ip6B_length]
 go_wp2_with (at_builtin; refine wpList_appP _ bt rfl (.tmp 16) (.tmp 17) rfl (by exact below_plus _ bs2 d2) rfl ho2 rfl (by exact ((h.alloc _).plus_ _ _).plus_ _ _) (by omega) ?_; intro A3 n3 k3 bs3 m3 ho3 hg3)
 go_ret2
 exact RetBE.mk ho3.rb (belowP (belowP (Below.allocS (Below.refl _ _) _) _ _) _ _)
end

section
open Go.RowKit
attribute [local go_sem ↓] sliced_cut
attribute [local go_sem] cutA_zero
set_option maxHeartbeats 4000000
set_option maxRecDepth 100000
theorem hdr6_short (A : Option Addr) (n c : Nat) (l : List UInt8) (w : World) (h : Rb w A n c l) (hm : n ≤ 2000000) (hn : n < 40) : Calls Tryz.prog 61 #[.slice A n c] w (RetV w (.tuple #[.agg (h6C 0 0 0 0 0 false 0 0 false 0 0).toArray, .int .i64 20])) := by
 obtain ⟨du, u1, u2⟩ := rowH6
 have d40 : decide ((n : Int) < 40) = true := by simp only [decide_eq_true_eq]; omega
 have b2 : Bk (w.alloc (.cells #[.int .u8 0, .int .u32 0, .int .i64 0, .int .u8 0, .int .u8 0, .bool false, .int .u64 0, .int .u64 0, .bool false, .int .u64 0, .int .u64 0] 94)) w.heap.size 94 (h6C 0 0 0 0 0 false 0 0 false 0 0) := Bk.new w 94 #[.int .u8 0, .int .u32 0, .int .i64 0, .int .u8 0, .int .u8 0, .bool false, .int .u64 0, .int .u64 0, .bool false, .int .u64 0, .int .u64 0]
 have be : Below w.heap.size w (w.alloc (.cells #[.int .u8 0, .int .u32 0, .int .i64 0, .int .u8 0, .int .u8 0, .bool false, .int .u64 0, .int .u64 0, .bool false, .int .u64 0, .int .u64 0] 94)) := Below.allocS (Below.refl _ _) _
 go_enter Tryz.func61, Tryz.ntmps61
 go_wp2_with (refine at_op (.store 94 (.tmp 2) (.tmp 10)) rfl ?_; refine wpList_stA (t := 94) 94 (.tmp 2) (.tmp 10) rfl rfl (h6C 0 0 0 0 0 false 0 0 false 0 0) (h6C 0 0 0 0 0 false 0 0 false 0 0) rfl (h6C_one _ _ _ _ _ _ _ _ _ _ _) rfl rfl b2 (szH6 _ _ _ _ _ _ _ _ _ _ _) ?_; intro W9 h9 g9)
 refine bodyPost_agg2 Tryz.results61 rfl rfl h9.range u1 u2 (szH6 _ _ _ _ _ _ _ _ _ _ _) rfl (RetV.mk ?_)
 exact below_grown be g9 (by omega)
theorem hdr6_form (A : Option Addr) (n c : Nat) (l : List UInt8) (w : World) (h : Rb w A n c l) (hm : n ≤ 2000000) (X : Nat) (x0 : num ((l.drop 0).take 4) = X) (hn : 40 ≤ n) (hf : X / 268435456 ≠ 6) : Calls Tryz.prog 61 #[.slice A n c] w (RetV w (.tuple #[.agg (h6C 0 0 0 0 0 false 0 0 false 0 0).toArray, .int .i64 21])) := by
 obtain ⟨du, u1, u2⟩ := rowH6
 have hc := h.2.1
 have h40 : (40 : Int) ≤ (n : Int) := by omega
 have h40c : (40 : Int) ≤ (c : Int) := by omega
 have d40 : decide ((n : Int) < 40) = false := by simp only [decide_eq_false_iff_not]; omega
 have ht40 : Rb w A 40 c (l.take 40) := h.take (by omega)
 have hX : X < 4294967296 := by rw [← x0]; exact num_lt' l 0 4 4294967296 (by decide)
 replace x0 : Hid (num (((l.take 40).drop 0).take 4) = X) := Lib.hid (by rw [num_in l 40 0 4 (by decide)]; exact x0)
 have e2 : ((X : Int) / 268435456 != 6) = true := by rw [bne_iff_ne]; omega
 have hB : (l.take 40).length = 40 := by rw [List.length_take, h.1]; omega
 have HR := Lib.hid (fun W (h : Rb W A 40 c (l.take 40)) => readK A 40 c (l.take 40) W h (by decide))
 generalize l.take 40 = B at *
 clear h
 have b2 : Bk (w.alloc (.cells #[.int .u8 0, .int .u32 0, .int .i64 0, .int .u8 0, .int .u8 0, .bool false, .int .u64 0, .int .u64 0, .bool false, .int .u64 0, .int .u64 0] 94)) w.heap.size 94 (h6C 0 0 0 0 0 false 0 0 false 0 0) := Bk.new w 94 #[.int .u8 0, .int .u32 0, .int .i64 0, .int .u8 0, .int .u8 0, .bool false, .int .u64 0, .int .u64 0, .bool false, .int .u64 0, .int .u64 0]
 have be : Below w.heap.size w (w.alloc (.cells #[.int .u8 0, .int .u32 0, .int .i64 0, .int .u8 0, .int .u8 0, .bool false, .int .u64 0, .int .u64 0, .bool false, .int .u64 0, .int .u64 0] 94)) := Below.allocS (Below.refl _ _) _
 go_enter Tryz.func61, Tryz.ntmps61
 go_wp2_with fail
 refine (HR.out _ (ht40.alloc _)).mono ?_
 rintro e w1 ⟨r, bs1, d1, rfl, rfl, hr1, hR⟩
 replace b2 := b2.later (below_plus _ bs1 d1)
 replace be := belowP be bs1 d1
 have hr2 : w.heap.size < r := by simp at hr1; omega
 generalize plus (w.alloc (.cells #[.int .u8 0, .int .u32 0, .int .i64 0, .int .u8 0, .int .u8 0, .bool false, .int .u64 0, .int .u64 0, .bool false, .int .u64 0, .int .u64 0] 94)) bs1 d1 = W at *
 clear hr1
 go_wp2_with fail
 refine (longG W r B 0 X hR (by omega) (by omega) x0.out).mono ?_
 rintro e W1 ⟨rfl, hR1, hg1⟩
 replace b2 := b2.grown hg1 (by simp; omega)
 replace be := below_grown be hg1 (by omega)
 clear hg1 hR
 have zr := hR1.lt
 go_wp2_with (refine at_op (.store 94 (.tmp 2) (.tmp 19)) rfl ?_; refine wpList_stA (t := 94) 94 (.tmp 2) (.tmp 19) rfl rfl (h6C 0 0 0 0 0 false 0 0 false 0 0) (h6C 0 0 0 0 0 false 0 0 false 0 0) rfl (h6C_one _ _ _ _ _ _ _ _ _ _ _) rfl rfl b2 (szH6 _ _ _ _ _ _ _ _ _ _ _) ?_; intro W9 h9 g9)
 refine bodyPost_agg2 Tryz.results61 rfl rfl h9.range u1 u2 (szH6 _ _ _ _ _ _ _ _ _ _ _) rfl (RetV.mk ?_)
 exact below_grown be g9 (by omega)
theorem hdr6_long (A : Option Addr) (n c : Nat) (l : List UInt8) (w : World) (h : Rb w A n c l) (hm : n ≤ 2000000) (X ln : Nat) (x0 : num ((l.drop 0).take 4) = X) (x1 : num ((l.drop 4).take 2) = ln) (hn : 40 ≤ n) (hf : X / 268435456 = 6) (hq : n - 40 < ln) : Calls Tryz.prog 61 #[.slice A n c] w (RetV w (.tuple #[.agg (h6C 0 0 0 0 0 false 0 0 false 0 0).toArray, .int .i64 20])) := by
 obtain ⟨du, u1, u2⟩ := rowH6
 have hc := h.2.1
 have h40 : (40 : Int) ≤ (n : Int) := by omega
 have h40c : (40 : Int) ≤ (c : Int) := by omega
 have d40 : decide ((n : Int) < 40) = false := by simp only [decide_eq_false_iff_not]; omega
 have ht40 : Rb w A 40 c (l.take 40) := h.take (by omega)
 have hX : X < 4294967296 := by rw [← x0]; exact num_lt' l 0 4 4294967296 (by decide)
 replace x0 : Hid (num (((l.take 40).drop 0).take 4) = X) := Lib.hid (by rw [num_in l 40 0 4 (by decide)]; exact x0)
 have hln : ln < 65536 := by rw [← x1]; exact num_lt' l 4 2 65536 (by decide)
 replace x1 : Hid (num (((l.take 40).drop 4).take 2) = ln) := Lib.hid (by rw [num_in l 40 4 2 (by decide)]; exact x1)
 have e2 : (X : Int) / 268435456 = 6 := by omega
 obtain ⟨cl, hcl⟩ : ∃ cl : Nat, (X : Int) / 1048576 % 256 = (cl : Int) := ⟨X / 1048576 % 256, by omega⟩
 obtain ⟨lb, hlb⟩ : ∃ lb : Nat, X % 1048576 = lb := ⟨_, rfl⟩
 have hand := u32_mask20 X hX
 rw [hlb] at hand
 have hdl : decide ((n : Int) - 40 < (ln : Int)) = true := by simp only [decide_eq_true_eq]; omega
 have hdn : IntKind.i64.wrap ((n : Int) - 40) = (n : Int) - 40 := IntWalk.i64_in _ (by omega)
 clear hlb
 have hB : (l.take 40).length = 40 := by rw [List.length_take, h.1]; omega
 have HR := Lib.hid (fun W (h : Rb W A 40 c (l.take 40)) => readK A 40 c (l.take 40) W h (by decide))
 generalize l.take 40 = B at *
 clear h
 have b2 : Bk (w.alloc (.cells #[.int .u8 0, .int .u32 0, .int .i64 0, .int .u8 0, .int .u8 0, .bool false, .int .u64 0, .int .u64 0, .bool false, .int .u64 0, .int .u64 0] 94)) w.heap.size 94 (h6C 0 0 0 0 0 false 0 0 false 0 0) := Bk.new w 94 #[.int .u8 0, .int .u32 0, .int .i64 0, .int .u8 0, .int .u8 0, .bool false, .int .u64 0, .int .u64 0, .bool false, .int .u64 0, .int .u64 0]
 have be : Below w.heap.size w (w.alloc (.cells #[.int .u8 0, .int .u32 0, .int .i64 0, .int .u8 0, .int .u8 0, .bool false, .int .u64 0, .int .u64 0, .bool false, .int .u64 0, .int .u64 0] 94)) := Below.allocS (Below.refl _ _) _
 go_enter Tryz.func61, Tryz.ntmps61
 go_wp2_with fail
 refine (HR.out _ (ht40.alloc _)).mono ?_
 rintro e w1 ⟨r, bs1, d1, rfl, rfl, hr1, hR⟩
 replace b2 := b2.later (below_plus _ bs1 d1)
 replace be := belowP be bs1 d1
 have hr2 : w.heap.size < r := by simp at hr1; omega
 generalize plus (w.alloc (.cells #[.int .u8 0, .int .u32 0, .int .i64 0, .int .u8 0, .int .u8 0, .bool false, .int .u64 0, .int .u64 0, .bool false, .int .u64 0, .int .u64 0] 94)) bs1 d1 = W at *
 clear hr1
 go_wp2_with fail
 refine (longG W r B 0 X hR (by omega) (by omega) x0.out).mono ?_
 rintro e W1 ⟨rfl, hR1, hg1⟩
 replace b2 := b2.grown hg1 (by simp; omega)
 replace be := below_grown be hg1 (by omega)
 clear hg1 hR
 have zr := hR1.lt
 go_wp2_with fail
 have b6 : Bk (W1.alloc (.cells #[.int .u8 (cl : Int), .int .u32 (lb : Int), .int .i64 0, .int .u8 0, .int .u8 0, .bool false, .int .u64 0, .int .u64 0, .bool false, .int .u64 0, .int .u64 0] 94)) W1.heap.size 94 [.int .u8 (cl : Int), .int .u32 (lb : Int), .int .i64 0, .int .u8 0, .int .u8 0, .bool false, .int .u64 0, .int .u64 0, .bool false, .int .u64 0, .int .u64 0] := Bk.new W1 94 _
 replace b2 := b2.alloc (.cells #[.int .u8 (cl : Int), .int .u32 (lb : Int), .int .i64 0, .int .u8 0, .int .u8 0, .bool false, .int .u64 0, .int .u64 0, .bool false, .int .u64 0, .int .u64 0] 94)
 replace be := Below.allocS be (.cells #[.int .u8 (cl : Int), .int .u32 (lb : Int), .int .i64 0, .int .u8 0, .int .u8 0, .bool false, .int .u64 0, .int .u64 0, .bool false, .int .u64 0, .int .u64 0] 94)
 replace hR1 := hR1.later ((Below.refl _ _).alloc (Nat.le_refl _) (.cells #[.int .u8 (cl : Int), .int .u32 (lb : Int), .int .i64 0, .int .u8 0, .int .u8 0, .bool false, .int .u64 0, .int .u64 0, .bool false, .int .u64 0, .int .u64 0] 94))
 generalize W1.alloc (.cells #[.int .u8 (cl : Int), .int .u32 (lb : Int), .int .i64 0, .int .u8 0, .int .u8 0, .bool false, .int .u64 0, .int .u64 0, .bool false, .int .u64 0, .int .u64 0] 94) = W2 at *
 have zg : w.heap.size < W1.heap.size := by omega
 generalize W1.heap.size = g6 at *
 clear e2 hcl hand hX x0 W
 refine (wordG W2 r B 4 ln hR1 (by omega) (by omega) x1.out).mono ?_
 clear x1
 rintro e W3 ⟨rfl, hR2, hg2⟩
 replace b2 := b2.grown hg2 (by simp; omega)
 replace b6 := b6.grown hg2 (by simp; omega)
 replace be := below_grown be hg2 (by omega)
 clear hg2 hR1
 have q := b6.cell 2
 have fr := b6.frozen 2
 have z6 := b6.lt
 simp only [List.getElem?_cons_succ, List.getElem?_cons_zero] at q
 go_upto_region 9 with (fail)
 replace b6 := b6.set_ 2 (.int .i64 (ln : Int))
 replace b2 := b2.far (p := ⟨g6, 2, none⟩) (by simp; omega) (.int .i64 (ln : Int))
 replace be := be.setCell (p := ⟨g6, 2, none⟩) (by simp; omega) (.int .i64 (ln : Int))
 simp only [List.set_cons_succ, List.set_cons_zero] at b6
 clear q fr z6 hR2
 generalize W3.setCell ⟨g6, 2, none⟩ (.int .i64 (ln : Int)) = W3s at *
 have q := b6.cell 2
 simp only [List.getElem?_cons_succ, List.getElem?_cons_zero] at q
 go_wp2_with (refine at_op (.store 94 (.tmp 2) (.tmp 36)) rfl ?_; refine wpList_stA (t := 94) 94 (.tmp 2) (.tmp 36) rfl rfl (h6C 0 0 0 0 0 false 0 0 false 0 0) (h6C 0 0 0 0 0 false 0 0 false 0 0) rfl (h6C_one _ _ _ _ _ _ _ _ _ _ _) rfl rfl b2 (szH6 _ _ _ _ _ _ _ _ _ _ _) ?_; intro W9 h9 g9)
 refine bodyPost_agg2 Tryz.results61 rfl rfl h9.range u1 u2 (szH6 _ _ _ _ _ _ _ _ _ _ _) rfl (RetV.mk ?_)
 exact below_grown be g9 (by omega)
theorem as_ip6B (l : List UInt8) (h : 40 ≤ l.length) (hv : num ((l.drop 0).take 4) / 268435456 = 6) : l = ip6B (num ((l.drop 0).take 4) / 1048576 % 256) (num ((l.drop 0).take 4) % 1048576) (num ((l.drop 4).take 2)) (num ((l.drop 6).take 1)) (num ((l.drop 7).take 1)) (num ((l.drop 8).take 8)) (num ((l.drop 16).take 8)) (num ((l.drop 24).take 8)) (num ((l.drop 32).take 8)) ++ l.drop 40 := by
 have part : ∀ (k s : Nat), k + s ≤ l.length → dig (num ((l.drop k).take s)) s = (l.drop k).take s := fun k s hk => digNum s _ (by rw [List.length_take, List.length_drop]; omega)
 have hX : num ((l.drop 0).take 4) < 4294967296 := num_lt' l 0 4 _ (by decide)
 have e0 : 1610612736 + num ((l.drop 0).take 4) / 1048576 % 256 * 1048576 + num ((l.drop 0).take 4) % 1048576 = num ((l.drop 0).take 4) := by omega
 unfold ip6B
 rw [e0, part 0 4 (by omega), part 4 2 (by omega), part 6 1 (by omega), part 7 1 (by omega), part 8 8 (by omega), part 16 8 (by omega), part 24 8 (by omega), part 32 8 (by omega)]
 have cut : ∀ (k s : Nat), l.drop k = (l.drop k).take s ++ l.drop (k + s) := fun k s => by rw [← List.drop_drop, List.take_append_drop]
 have c0 := cut 0 4
 rw [cut 4 2, cut 6 1, cut 7 1, cut 8 8, cut 16 8, cut 24 8, cut 32 8] at c0
 rw [List.drop_zero] at c0 ⊢
 conv => lhs; rw [c0]
 simp only [List.append_assoc]
theorem num_app : ∀ (b a : List UInt8), num (a ++ b) = num a * 256 ^ b.length + num b := by
 intro b
 induction b with
 | nil => intro a; simp [num]
 | cons x b ih =>
  intro a
  have h1 := ih [x]
  rw [show a ++ x :: b = (a ++ [x]) ++ b by simp, ih, num_snoc, show x :: b = [x] ++ b from rfl, h1, show num [x] = x.toNat from by simp [num], List.length_append, List.length_singleton, Nat.add_comm 1 b.length, Nat.pow_succ, Nat.add_mul, Nat.mul_assoc, Nat.mul_comm 256]
  omega
theorem first_ip6 (l : List UInt8) (h : 4 ≤ l.length) : num ((l.drop 0).take 4) = num ((l.drop 0).take 1) * 16777216 + num ((l.drop 1).take 1) * 65536 + num ((l.drop 2).take 2) := by
 have e : (l.drop 0).take 4 = (l.drop 0).take 1 ++ ((l.drop 1).take 1 ++ (l.drop 2).take 2) := by
  match l, h with
  | a :: b :: c :: d :: r, _ => simp
 rw [e, num_app, num_app]
 have h1 : ((l.drop 1).take 1).length = 1 := by rw [List.length_take, List.length_drop]; omega
 have h2 : ((l.drop 2).take 2).length = 2 := by rw [List.length_take, List.length_drop]; omega
 rw [List.length_append, h1, h2]
 omega
end

section
open Go.RowKit
attribute [local go_sem ↓] sliced_cut
attribute [local go_sem] cutA_zero
set_option maxRecDepth 100000 in
theorem eq_h6 (w : World) (cl lb : Nat) (ln : Int) (nx ht : Nat) (s6 : Bool) (sh sl : Nat) (d6 : Bool) (dh dl : Nat) : (binOp .eql 94 (.agg (h6C cl lb ln nx ht s6 sh sl d6 dh dl).toArray) (.agg (h6C cl lb ln nx ht s6 sh sl d6 dh dl).toArray)).run Tryz.prog w = .ok (.bool true) w := by
 unfold h6C
 go_simp
attribute [local go_sem ↓] eq_h6
end

section
open Go.RowKit
attribute [local go_sem ↓] sliced_cut
attribute [local go_sem] cutA_zero
set_option maxHeartbeats 4000000
set_option maxRecDepth 100000
theorem parse6_err (A : Option Addr) (n c : Nat) (E : Int) (w : World) (hE : (E != 0) = true) (HH : ∀ w', Below w.heap.size w w' → Calls Tryz.prog 61 #[.slice A n c] w' (RetV w' (.tuple #[.agg (h6C 0 0 0 0 0 false 0 0 false 0 0).toArray, .int .i64 E]))) : Calls Tryz.prog 40 #[.slice A n c] w (RetV w (.tuple #[.agg (h6C 0 0 0 0 0 false 0 0 false 0 0).toArray, .slice none 0 0, .int .i64 E])) := by
 obtain ⟨du, u1, u2⟩ := rowH6
 replace HH := Lib.hid HH
 have b2 : Bk (w.alloc (.cells #[.int .u8 0, .int .u32 0, .int .i64 0, .int .u8 0, .int .u8 0, .bool false, .int .u64 0, .int .u64 0, .bool false, .int .u64 0, .int .u64 0] 94)) w.heap.size 94 (h6C 0 0 0 0 0 false 0 0 false 0 0) := Bk.new w 94 #[.int .u8 0, .int .u32 0, .int .i64 0, .int .u8 0, .int .u8 0, .bool false, .int .u64 0, .int .u64 0, .bool false, .int .u64 0, .int .u64 0]
 have be : Below w.heap.size w (w.alloc (.cells #[.int .u8 0, .int .u32 0, .int .i64 0, .int .u8 0, .int .u8 0, .bool false, .int .u64 0, .int .u64 0, .bool false, .int .u64 0, .int .u64 0] 94)) := Below.allocS (Below.refl _ _) _
 go_enter Tryz.func40, Tryz.ntmps40
 go_wp2_with fail
 refine (HH.out _ be).mono ?_
 rintro e w1 ⟨bs1, d1, rfl, rfl⟩
 go_upto_region 2 with (refine at_op (.store 94 (.tmp 5) (.tmp 10)) rfl ?_; refine wpList_stA (t := 94) 94 (.tmp 5) (.tmp 10) rfl rfl (h6C 0 0 0 0 0 false 0 0 false 0 0) (h6C 0 0 0 0 0 false 0 0 false 0 0) rfl (h6C_one _ _ _ _ _ _ _ _ _ _ _) rfl rfl ?_ (szH6 _ _ _ _ _ _ _ _ _ _ _) ?_; (· refine Bk.newK _ _ _ ?_ rfl; simp [size_plus]); intro W b5 hgr)
 have zb := be.size
 replace b2 := ((b2.later (below_plus _ bs1 d1)).alloc _).grown hgr (by simp; omega)
 replace be := below_grown (Below.allocS (belowP be bs1 d1) _) hgr (by omega)
 clear hgr zb
 go_wp2_with (refine at_op (.store 94 (.tmp 2) (.tmp 14)) rfl ?_; refine wpList_stA (t := 94) 94 (.tmp 2) (.tmp 14) rfl rfl (h6C 0 0 0 0 0 false 0 0 false 0 0) (h6C 0 0 0 0 0 false 0 0 false 0 0) rfl (h6C_one _ _ _ _ _ _ _ _ _ _ _) rfl rfl b2 (szH6 _ _ _ _ _ _ _ _ _ _ _) ?_; intro W9 h9 g9)
 refine bodyPost_agg3 Tryz.results40 rfl rfl rfl h9.range u1 u2 (szH6 _ _ _ _ _ _ _ _ _ _ _) rfl (RetV.mk ?_)
 exact below_grown be g9 (by omega)
def RetP6 (w : World) (cl lb ln nx ht : Nat) (s6 : Bool) (sh sl dh dl : Nat) (load : List UInt8) (E : Int) (e : Ending) (w' : World) : Prop := ∃ A n k bs d, e = .returned (.tuple #[.agg (h6C cl lb (ln : Int) nx ht s6 sh sl s6 dh dl).toArray, .slice A n k, .int .i64 E]) ∧ w' = plus w bs d ∧ Rb (plus w bs d) A n k load ∧ ∀ a, A = some a → w.heap.size ≤ a.block
theorem Ob.fresh6 {w : World} {w0 base : Nat} {A : Option Addr} {n c : Nat} {l : List UInt8} (h : Ob w base A n c l) (hb : w0 ≤ base) : ∀ a, A = some a → w0 ≤ a.block := fun a ha => by
 subst ha
 have := (h.blk a.block rfl).1
 omega
theorem RetP6.err {w : World} {E : Int} {e : Ending} {w' : World} (h : RetV w (.tuple #[.agg (h6C 0 0 0 0 0 false 0 0 false 0 0).toArray, .slice none 0 0, .int .i64 E]) e w') : RetP6 w 0 0 0 0 0 false 0 0 0 0 [] E e w' := by
 obtain ⟨bs, d, rfl, rfl⟩ := h
 exact ⟨none, 0, 0, bs, d, rfl, rfl, Rb.nil_, fun a ha => by cases ha⟩
theorem RetP6.mk {w w' : World} {cl lb ln nx ht : Nat} {s6 : Bool} {sh sl dh dl : Nat} {load : List UInt8} {E : Int} {A : Option Addr} {n k : Nat} (h : Rb w' A n k load) (hf : ∀ a, A = some a → w.heap.size ≤ a.block) (hb : Below w.heap.size w w') : RetP6 w cl lb ln nx ht s6 sh sl dh dl load E (.returned (.tuple #[.agg (h6C cl lb (ln : Int) nx ht s6 sh sl s6 dh dl).toArray, .slice A n k, .int .i64 E])) w' := by
 obtain ⟨bs, d, rfl⟩ := plus_of hb
 exact ⟨A, n, k, bs, d, rfl, rfl, h, hf⟩
theorem parse6_ok (cl lb ln nx ht sh sl dh dl : Nat) (A : Option Addr) (n c : Nat) (rest : List UInt8) (w : World) (h1 : cl < 256) (h2 : lb < 1048576) (h3 : ln < 65536) (h4 : nx < 256) (h5 : ht < 256) (k1 : sh < 18446744073709551616) (k2 : sl < 18446744073709551616) (k3 : dh < 18446744073709551616) (k4 : dl < 18446744073709551616) (h : Rb w A n c (ip6B cl lb ln nx ht sh sl dh dl ++ rest)) (hn : ln ≤ rest.length) (hm : n ≤ 2000000) :
  Calls Tryz.prog 40 #[.slice A n c] w (RetP6 w cl lb ln nx ht true sh sl dh dl (rest.take ln) 0) := by
 obtain ⟨dk, u1, u2⟩ := rowH6
 have hlen : n = 40 + rest.length := by rw [← h.1, List.length_append, ip6B_length]
 obtain ⟨b, off, rfl, hbl, hcell⟩ := h.2.2.at_ (by rw [bcs_length, h.1]; omega)
 have hc := h.2.1
 have HH := Lib.hid (fun w (h : Rb w (some ⟨b, off, none⟩) n c (ip6B cl lb ln nx ht sh sl dh dl ++ rest)) => ip6Header cl lb ln nx ht sh sl dh dl (some ⟨b, off, none⟩) n c rest w h1 h2 h3 h4 h5 k1 k2 k3 k4 h hn hm)
 have hr0 : Rb w (cutA (some ⟨b, off, none⟩) c 40 1) ln (c - 40) (rest.take ln) := by
  have h40 := (h.cut (k := 40) (by omega)).take (k := ln) (by omega)
  rwa [List.drop_left' (ip6B_length _ _ _ _ _ _ _ _ _)] at h40
 obtain ⟨z, hz⟩ : ∃ z : Nat, z = 40 + ln := ⟨_, rfl⟩
 have e1 : IntKind.i64.wrap (40 + (ln : Int)) = (z : Int) := by rw [IntWalk.i64_in _ (by omega)]; omega
 have j0 : (0 : Int) ≤ 40 := by omega
 have j1 : (40 : Int) ≤ (z : Int) := by omega
 have j2 : (z : Int) ≤ (c : Int) := by omega
 have j3 : z - 40 = ln := by omega
 clear hcell hz
 generalize rest.take ln = load at *
 have b2 : Bk (w.alloc (.cells #[.int .u8 0, .int .u32 0, .int .i64 0, .int .u8 0, .int .u8 0, .bool false, .int .u64 0, .int .u64 0, .bool false, .int .u64 0, .int .u64 0] 94)) w.heap.size 94 (h6C 0 0 0 0 0 false 0 0 false 0 0) := Bk.new w 94 #[.int .u8 0, .int .u32 0, .int .i64 0, .int .u8 0, .int .u8 0, .bool false, .int .u64 0, .int .u64 0, .bool false, .int .u64 0, .int .u64 0]
 have be : Below w.heap.size w (w.alloc (.cells #[.int .u8 0, .int .u32 0, .int .i64 0, .int .u8 0, .int .u8 0, .bool false, .int .u64 0, .int .u64 0, .bool false, .int .u64 0, .int .u64 0] 94)) := Below.allocS (Below.refl _ _) _
 replace hlen := Lib.hid hlen
 go_enter Tryz.func40, Tryz.ntmps40
 go_wp2_with fail
 refine (HH.out _ (h.alloc _)).mono ?_
 rintro e w1 ⟨bs1, d1, rfl, rfl⟩
 go_upto_region 2 with (refine at_op (.store 94 (.tmp 5) (.tmp 10)) rfl ?_; refine wpList_stA (t := 94) 94 (.tmp 5) (.tmp 10) rfl rfl (h6C cl lb (ln : Int) nx ht true sh sl true dh dl) (h6C 0 0 0 0 0 false 0 0 false 0 0) rfl (h6C_one _ _ _ _ _ _ _ _ _ _ _) rfl rfl ?_ (szH6 _ _ _ _ _ _ _ _ _ _ _) ?_; (· refine Bk.newK _ _ _ ?_ rfl; simp [size_plus]); intro W b5 hgr)
 have zb := be.size
 replace b2 := ((b2.later (below_plus _ bs1 d1)).alloc _).grown hgr (by simp; omega)
 replace be := below_grown (Below.allocS (belowP be bs1 d1) _) hgr (by omega)
 have hr := hr0.later be
 have hg5 : w.heap.size < w.heap.size + 1 + bs1.length := by omega
 generalize w.heap.size + 1 + bs1.length = g5 at *
 have hDb : ∀ b, (fun b => b = w.heap.size) b → b < W.heap.size := fun b hb => by subst hb; exact b2.lt
 have hrd : ∀ a, cutA (some ⟨b, off, none⟩) c 40 1 = some a → ¬ (fun b => b = w.heap.size) a.block := fun a ha hb => by
  have : a.block = b := by
   unfold cutA at ha
   split at ha
   ·injection ha with ha; subst ha; rfl
   ·simp [add_plain] at ha; subst ha; rfl
  have hb' : a.block = w.heap.size := hb
  omega
 clear hgr zb h
 go_wp2
 refine wp_su (fun b => b = w.heap.size) 10 23 2 [7] rfl (by kernel_rfl) (by kernel_rfl) (fun i => match i with | 0 => MC.eq (.agg (h6C cl lb (ln : Int) nx ht true sh sl true dh dl).toArray) | 1 => MC.eq (.slice (some ⟨b, off, none⟩) n c) | 2 => MC.eq (.pointer (some ⟨g5, 2, none⟩)) | 3 => MC.eq (.int .i64 (ln : Int)) | 4 => MC.eq (.int .i64 (z : Int)) | 5 => MC.eq (.slice (cutA (some ⟨b, off, none⟩) c 40 1) ln (c - 40)) | 6 => MC.ob W.heap.size hDb load | 7 => MC.any | 8 => MC.ob W.heap.size hDb load | 9 => MC.eq (.int .i64 0) | _ => MC.any) (fun k w' => Bk w' w.heap.size 94 (if k = 0 then h6C 0 0 0 0 0 false 0 0 false 0 0 else h6C cl lb (ln : Int) nx ht true sh sl true dh dl)) ?_ ?_ ?_ ?_ ?_
 ·exact fun k w w' h h' => h.later h'.below
 ·exact b2
 ·intro i hi o ho hq FA w' hC hO hD K hK
  match i, hi, ho, hq, hO, hD, hK with
  | 0, _, ho, hq, hO, hD, hK => 
   obtain rfl := qoi ho
   clear ho hq
   have ev5 : FA.eval (.tmp 5) = .pointer (some ⟨g5, 0, none⟩) := hO 5 (by kernel_rfl)
   have e5 : FA.tmps[5]?.getD undef = .pointer (some ⟨g5, 0, none⟩) := by simpa [Act.eval] using ev5
   replace ev5 := Lib.hid ev5
   clear hO hD
   refine wanted_if rfl ?_
   refine wp_load_mid 94 (.tmp 5) rfl g5 0 ev5.out (h6C cl lb (ln : Int) nx ht true sh sl true dh dl) _ (Bk.range (b5.chg hC (by omega))) u1 u2 (szH6 _ _ _ _ _ _ _ _ _ _ _) ?_
   exact hK.out _ _ (Ex.refl _) rfl
  | 1, _, ho, hq, hO, hD, hK => 
   obtain rfl := qoi ho
   clear ho hq
   have ev0 : FA.eval (.tmp 0) = .slice (some ⟨b, off, none⟩) n c := hO 0 (by kernel_rfl)
   have e0 : FA.tmps[0]?.getD undef = .slice (some ⟨b, off, none⟩) n c := by simpa [Act.eval] using ev0
   replace ev0 := Lib.hid ev0
   clear hO hD
   go_simp
   exact hK.out _ _ (Ex.refl _) rfl
  | 2, _, ho, hq, hO, hD, hK => 
   obtain rfl := qoi ho
   clear ho hq
   have ev5 : FA.eval (.tmp 5) = .pointer (some ⟨g5, 0, none⟩) := hO 5 (by kernel_rfl)
   have e5 : FA.tmps[5]?.getD undef = .pointer (some ⟨g5, 0, none⟩) := by simpa [Act.eval] using ev5
   replace ev5 := Lib.hid ev5
   clear hO hD
   go_simp
   exact hK.out _ _ (Ex.refl _) rfl
  | 3, _, ho, hq, hO, hD, hK => 
   obtain rfl := qoi ho
   clear ho hq
   have ev18 : FA.eval (.tmp 18) = .pointer (some ⟨g5, 2, none⟩) := hD 2 18 (by kernel_rfl)
   have e18 : FA.tmps[18]?.getD undef = .pointer (some ⟨g5, 2, none⟩) := by simpa [Act.eval] using ev18
   replace ev18 := Lib.hid ev18
   clear hO hD
   have cc : w'.cell? ⟨g5, 2, none⟩ = some (.int .i64 (ln : Int)) := (b5.chg hC (by omega)).cell 2
   go_simp
   exact hK.out _ _ (Ex.refl _) rfl
  | 4, _, ho, hq, hO, hD, hK => 
   obtain rfl := qoi ho
   clear ho hq
   have ev19 : FA.eval (.tmp 19) = .int .i64 (ln : Int) := hD 3 19 (by kernel_rfl)
   have e19 : FA.tmps[19]?.getD undef = .int .i64 (ln : Int) := by simpa [Act.eval] using ev19
   replace ev19 := Lib.hid ev19
   clear hO hD
   go_simp
   exact hK.out _ _ (Ex.refl _) rfl
  | 5, _, ho, hq, hO, hD, hK => 
   obtain rfl := qoi ho
   clear ho hq
   have ev17 : FA.eval (.tmp 17) = .slice (some ⟨b, off, none⟩) n c := hD 1 17 (by kernel_rfl)
   have e17 : FA.tmps[17]?.getD undef = .slice (some ⟨b, off, none⟩) n c := by simpa [Act.eval] using ev17
   replace ev17 := Lib.hid ev17
   have ev20 : FA.eval (.tmp 20) = .int .i64 (z : Int) := hD 4 20 (by kernel_rfl)
   have e20 : FA.tmps[20]?.getD undef = .int .i64 (z : Int) := by simpa [Act.eval] using ev20
   replace ev20 := Lib.hid ev20
   clear hO hD
   go_simp
   exact hK.out _ _ (Ex.refl _) rfl
  | 6, _, ho, hq, hO, hD, hK => 
   obtain rfl := qoi ho
   clear ho hq
   have ev21 : FA.eval (.tmp 21) = .slice (cutA (some ⟨b, off, none⟩) c 40 1) ln (c - 40) := hD 5 21 (by kernel_rfl)
   have e21 : FA.tmps[21]?.getD undef = .slice (cutA (some ⟨b, off, none⟩) c 40 1) ln (c - 40) := by simpa [Act.eval] using ev21
   replace ev21 := Lib.hid ev21
   clear hO hD
   go_simp
   refine (clone_any _ _ _ load _ (hr.chg hC hrd) (by omega)).mono ?_
   rintro e w1 ⟨A2, n2, c2, bs2, d2, rfl, rfl, ho2⟩
   exact hK.out _ _ (Ex.plus_ _ _ _) ⟨_, _, _, rfl, ho2.mono hC.size⟩
  | 7, _, _, hq, _, _, _ => exact absurd hq (by decide)
  | 8, _, ho, hq, hO, hD, hK => 
   obtain rfl := qoi ho
   clear ho hq
   have f22 := hD 6 22 (by kernel_rfl)
   generalize eu22 : FA.eval (.tmp 22) = u22 at f22
   have e22 : FA.tmps[22]?.getD undef = u22 := by rw [← eu22]; simp [Act.eval]
   have ev22 := Lib.hid eu22
   clear eu22
   clear hO hD
   go_simp
   exact hK.out _ _ (Ex.refl _) f22
  | 9, _, ho, hq, hO, hD, hK => 
   obtain rfl := qoi ho
   clear ho hq
   clear hO hD
   go_simp
   exact hK.out _ _ (Ex.refl _) rfl
  | (k + 10), hi, _, _, _, _, _ => exact absurd hi (by omega)
 ·intro k i hk o ho FA w' hC hS hO hD K hK
  match k, hk, hS, hK with
  | 0, hk, hS, hK => 
   obtain rfl : 7 = i := Option.some.inj hk
   obtain rfl := qoi ho
   clear ho hk
   have ev2 : FA.eval (.tmp 2) = .pointer (some ⟨w.heap.size, 0, none⟩) := hO 2 (by kernel_rfl)
   have e2 : FA.tmps[2]?.getD undef = .pointer (some ⟨w.heap.size, 0, none⟩) := by simpa [Act.eval] using ev2
   replace ev2 := Lib.hid ev2
   have ev16 : FA.eval (.tmp 16) = .agg (h6C cl lb (ln : Int) nx ht true sh sl true dh dl).toArray := hD 0 16 (by kernel_rfl)
   have e16 : FA.tmps[16]?.getD undef = .agg (h6C cl lb (ln : Int) nx ht true sh sl true dh dl).toArray := by simpa [Act.eval] using ev16
   replace ev16 := Lib.hid ev16
   clear hO hD
   refine wanted_if rfl ?_
   refine wp_stA 94 (.tmp 2) (.tmp 16) rfl (h6C cl lb (ln : Int) nx ht true sh sl true dh dl) (h6C 0 0 0 0 0 false 0 0 false 0 0) rfl (h6C_one _ _ _ _ _ _ _ _ _ _ _) ev2.out ev16.out hS (szH6 _ _ _ _ _ _ _ _ _ _ _) ?_
   intro w'' hn hg
   exact hK.out _ _ (Chg.one hg rfl) hn trivial
  | (k + 1), hk, _, _ => simp at hk
 intro vs w' hC hS hp
 have p0 : vs 0 = .agg (h6C cl lb (ln : Int) nx ht true sh sl true dh dl).toArray := hp 0 (by omega) rfl
 have p1 : vs 1 = .slice (some ⟨b, off, none⟩) n c := hp 1 (by omega) rfl
 have p2 : vs 2 = .pointer (some ⟨g5, 2, none⟩) := hp 2 (by omega) rfl
 have p3 : vs 3 = .int .i64 (ln : Int) := hp 3 (by omega) rfl
 have p4 : vs 4 = .int .i64 (z : Int) := hp 4 (by omega) rfl
 have p5 : vs 5 = .slice (cutA (some ⟨b, off, none⟩) c 40 1) ln (c - 40) := hp 5 (by omega) rfl
 have p6 := hp 6 (by omega) rfl
 have p8 := hp 8 (by omega) rfl
 have p9 : vs 9 = .int .i64 0 := hp 9 (by omega) rfl
 clear hp
 simp only [List.take_succ_cons, List.take_zero, List.drop_succ_cons, List.drop_zero, putAll, Nat.zero_add, Nat.reduceAdd, Act.put, qsT, qsZ, qsS, p0, p1, p2, p3, p4, p5, p9]
 clear p0 p1 p2 p3 p4 p5 p9
 generalize vs 6 = y6 at *
 generalize vs 8 = y8 at *
 clear vs
 obtain ⟨A8, n8, c8, rfl, h8⟩ := p8
 go_wp2
 refine bodyPost_agg3 Tryz.results40 rfl rfl rfl (Bk.range hS) u1 u2 (szH6 _ _ _ _ _ _ _ _ _ _ _) rfl (RetP6.mk h8.rb (h8.fresh6 be.size) ?_)
 exact be.trans (hC.below (B := w.heap.size) (fun b hb => by have : b = w.heap.size := hb; omega) be.size)
theorem take_app {α : Type} (a b : Nat) (l : List α) : l.take a ++ (l.drop a).take b = l.take (a + b) := by
 rw [List.take_add]
theorem refP6_short (A : Option Addr) (n c : Nat) (l : List UInt8) (w : World) (h : Rb w A n c l) (hm : n ≤ 2000000) (hn : n < 40) : NoC #[.slice A n c] w (RetV w (.tuple #[.agg (h6C 0 0 0 0 0 false 0 0 false 0 0).toArray, .slice none 0 0, .int .i64 20])) := trivial
theorem refP6_form (A : Option Addr) (n c : Nat) (l : List UInt8) (w : World) (h : Rb w A n c l) (hm : n ≤ 2000000) (b0 : Nat) (x0 : num ((l.drop 0).take 1) = b0) (hn : 40 ≤ n) (hf : b0 / 16 ≠ 6) : NoC #[.slice A n c] w (RetV w (.tuple #[.agg (h6C 0 0 0 0 0 false 0 0 false 0 0).toArray, .slice none 0 0, .int .i64 21])) := trivial
theorem refP6_long (A : Option Addr) (n c : Nat) (l : List UInt8) (w : World) (h : Rb w A n c l) (hm : n ≤ 2000000) (b0 b1 lo cl lb ln nx ht sh sl dh dl : Nat) (x0 : num ((l.drop 0).take 1) = b0) (x1 : num ((l.drop 1).take 1) = b1) (x2 : num ((l.drop 2).take 2) = lo) (x3 : num ((l.drop 4).take 2) = ln) (x4 : num ((l.drop 6).take 1) = nx) (x5 : num ((l.drop 7).take 1) = ht) (z0 : (l.drop 8).take 16 = dig sh 8 ++ dig sl 8) (z1 : (l.drop 24).take 16 = dig dh 8 ++ dig dl 8) (k1 : sh < 18446744073709551616) (k2 : sl < 18446744073709551616) (k3 : dh < 18446744073709551616) (k4 : dl < 18446744073709551616) (g0 : b0 / 16 = 6) (g1 : b0 % 16 * 16 + b1 / 16 = cl) (g2 : b1 % 16 * 65536 + lo = lb) (hn : 40 ≤ n) (hq : n - 40 < ln) : NoC #[.slice A n c] w (RetV w (.tuple #[.agg (h6C 0 0 0 0 0 false 0 0 false 0 0).toArray, .slice none 0 0, .int .i64 20])) := trivial
theorem refP6_ok (A : Option Addr) (n c : Nat) (l : List UInt8) (w : World) (h : Rb w A n c l) (hm : n ≤ 2000000) (b0 b1 lo cl lb ln nx ht sh sl dh dl : Nat) (x0 : num ((l.drop 0).take 1) = b0) (x1 : num ((l.drop 1).take 1) = b1) (x2 : num ((l.drop 2).take 2) = lo) (x3 : num ((l.drop 4).take 2) = ln) (x4 : num ((l.drop 6).take 1) = nx) (x5 : num ((l.drop 7).take 1) = ht) (z0 : (l.drop 8).take 16 = dig sh 8 ++ dig sl 8) (z1 : (l.drop 24).take 16 = dig dh 8 ++ dig dl 8) (k1 : sh < 18446744073709551616) (k2 : sl < 18446744073709551616) (k3 : dh < 18446744073709551616) (k4 : dl < 18446744073709551616) (g0 : b0 / 16 = 6) (g1 : b0 % 16 * 16 + b1 / 16 = cl) (g2 : b1 % 16 * 65536 + lo = lb) (hn : 40 ≤ n) (hq : ln ≤ n - 40) : NoC #[.slice A n c] w (RetP6 w cl lb ln nx ht true sh sl dh dl ((l.drop 40).take ln) 0) := trivial
structure Facts6 (l : List UInt8) (n cl lb ln nx ht : Nat) (s6 : Bool) (sh sl dh dl : Nat) (load : List UInt8) (E : Int) : Prop where
 c1 : cl < 256
 c2 : lb < 1048576
 c3 : ln < 65536
 c4 : ht < 256
 c : E = 0 → 40 ≤ n ∧ num ((l.drop 0).take 1) / 16 = 6 ∧ s6 = true ∧ nx = num ((l.drop 6).take 1) ∧ ln = num ((l.drop 4).take 2) ∧ sh = num ((l.drop 8).take 8) ∧ sl = num ((l.drop 16).take 8) ∧ dh = num ((l.drop 24).take 8) ∧ dl = num ((l.drop 32).take 8) ∧ load = (l.drop 40).take ln ∧ 40 + ln ≤ n
 d : load.length ≤ 65535
theorem Facts6.zero (l : List UInt8) (n : Nat) (E : Int) (hE : E ≠ 0) : Facts6 l n 0 0 0 0 0 false 0 0 0 0 [] E := ⟨by decide, by decide, by decide, by decide, fun h => absurd h hE, by simp⟩
theorem reads6F (A : Option Addr) (n c : Nat) (l : List UInt8) (w : World) (h : Rb w A n c l) (hm : n ≤ 2000000) : ∃ (cl lb ln nx ht : Nat) (s6 : Bool) (sh sl dh dl : Nat) (load : List UInt8) (E : Int), Facts6 l n cl lb ln nx ht s6 sh sl dh dl load E ∧ (nx < 256 ∧ ht < 256 ∧ sh < 18446744073709551616 ∧ sl < 18446744073709551616 ∧ dh < 18446744073709551616 ∧ dl < 18446744073709551616 ∧ load.length ≤ n) ∧
  (∀ w', Below w.heap.size w w' → Calls Tryz.prog 40 #[.slice A n c] w' (RetP6 w' cl lb ln nx ht s6 sh sl dh dl load E)) ∧ (∀ w', Below w.heap.size w w' → NoC #[.slice A n c] w' (RetP6 w' cl lb ln nx ht s6 sh sl dh dl load E)) := by
 have bad : ∀ E : Int, (E != 0) = true → (∀ w', Below w.heap.size w w' → Calls Tryz.prog 61 #[.slice A n c] w' (RetV w' (.tuple #[.agg (h6C 0 0 0 0 0 false 0 0 false 0 0).toArray, .int .i64 E]))) → (∀ w', Below w.heap.size w w' → NoC #[.slice A n c] w' (RetV w' (.tuple #[.agg (h6C 0 0 0 0 0 false 0 0 false 0 0).toArray, .slice none 0 0, .int .i64 E]))) → ∃ (cl lb ln nx ht : Nat) (s6 : Bool) (sh sl dh dl : Nat) (load : List UInt8) (E : Int), Facts6 l n cl lb ln nx ht s6 sh sl dh dl load E ∧ (nx < 256 ∧ ht < 256 ∧ sh < 18446744073709551616 ∧ sl < 18446744073709551616 ∧ dh < 18446744073709551616 ∧ dl < 18446744073709551616 ∧ load.length ≤ n) ∧
  (∀ w', Below w.heap.size w w' → Calls Tryz.prog 40 #[.slice A n c] w' (RetP6 w' cl lb ln nx ht s6 sh sl dh dl load E)) ∧ (∀ w', Below w.heap.size w w' → NoC #[.slice A n c] w' (RetP6 w' cl lb ln nx ht s6 sh sl dh dl load E)) := fun E hE h1 h2 =>
  ⟨0, 0, 0, 0, 0, false, 0, 0, 0, 0, [], E, Facts6.zero l n E (by rw [bne_iff_ne] at hE; exact hE), ⟨by decide, by decide, by decide, by decide, by decide, by decide, Nat.zero_le _⟩, fun w' hb => (parse6_err A n c E w' hE (fun w2 hb2 => h1 w2 (hb.trans (hb2.mono hb.size)))).mono fun _ _ => RetP6.err, fun w' hb => (h2 w' hb).mono fun _ _ => RetP6.err⟩
 by_cases g0 : n < 40
 ·exact bad 20 rfl (fun w' hb => hdr6_short A n c l w' (h.later hb) hm g0) (fun w' hb => refP6_short A n c l w' (h.later hb) hm g0)
 have hn : 40 ≤ n := by omega
 have hl := h.1
 have e := first_ip6 l (by omega)
 have B1 := num_lt' l 1 1 256 (by decide)
 have B2 := num_lt' l 2 2 65536 (by decide)
 have B0 := num_lt' l 0 1 256 (by decide)
 by_cases g1 : num ((l.drop 0).take 1) / 16 = 6
 case neg => exact bad 21 rfl (fun w' hb => hdr6_form A n c l w' (h.later hb) hm _ rfl hn (by omega)) (fun w' hb => refP6_form A n c l w' (h.later hb) hm _ rfl hn g1)
 have has := as_ip6B l (by omega) (by omega)
 have z0 : (l.drop 8).take 16 = dig (num ((l.drop 8).take 8)) 8 ++ dig (num ((l.drop 16).take 8)) 8 := by
  rw [digNum 8 _ (by rw [List.length_take, List.length_drop]; omega), digNum 8 _ (by rw [List.length_take, List.length_drop]; omega), show l.drop 16 = (l.drop 8).drop 8 from by rw [List.drop_drop], take_app 8 8 (l.drop 8)]
 have z1 : (l.drop 24).take 16 = dig (num ((l.drop 24).take 8)) 8 ++ dig (num ((l.drop 32).take 8)) 8 := by
  rw [digNum 8 _ (by rw [List.length_take, List.length_drop]; omega), digNum 8 _ (by rw [List.length_take, List.length_drop]; omega), show l.drop 32 = (l.drop 24).drop 8 from by rw [List.drop_drop], take_app 8 8 (l.drop 24)]
 have k1 := num_lt' l 8 8 18446744073709551616 (by decide)
 have k2 := num_lt' l 16 8 18446744073709551616 (by decide)
 have k3 := num_lt' l 24 8 18446744073709551616 (by decide)
 have k4 := num_lt' l 32 8 18446744073709551616 (by decide)
 by_cases g2 : n - 40 < num ((l.drop 4).take 2)
 ·exact bad 20 rfl (fun w' hb => hdr6_long A n c l w' (h.later hb) hm _ _ rfl rfl hn (by omega) g2) (fun w' hb => refP6_long A n c l w' (h.later hb) hm _ _ _ _ _ _ _ _ _ _ _ _ rfl rfl rfl rfl rfl rfl z0 z1 k1 k2 k3 k4 g1 rfl rfl hn g2)
 refine ⟨num ((l.drop 0).take 4) / 1048576 % 256, num ((l.drop 0).take 4) % 1048576, num ((l.drop 4).take 2), num ((l.drop 6).take 1), num ((l.drop 7).take 1), true, _, _, _, _, (l.drop 40).take (num ((l.drop 4).take 2)), 0, ⟨by omega, by omega, num_lt' l _ 2 _ (by decide), num_lt' l _ 1 _ (by decide), fun _ => ⟨hn, g1, rfl, rfl, rfl, rfl, rfl, rfl, rfl, rfl, by omega⟩, by have := num_lt' l 4 2 65536 (by decide); rw [List.length_take]; omega⟩, ⟨num_lt' l _ 1 _ (by decide), num_lt' l _ 1 _ (by decide), k1, k2, k3, k4, by rw [List.length_take, List.length_drop]; omega⟩, fun w' hb => ?_, fun w' hb => ?_⟩
 ·exact parse6_ok _ _ _ _ _ _ _ _ _ A n c (l.drop 40) w' (by omega) (by omega) (num_lt' l _ 2 _ (by decide)) (num_lt' l _ 1 _ (by decide)) (num_lt' l _ 1 _ (by decide)) k1 k2 k3 k4 (by rw [← has]; exact h.later hb) (by rw [List.length_drop]; omega) hm
 ·exact refP6_ok A n c l w' (h.later hb) hm _ _ _ _ _ _ _ _ _ _ _ _ rfl rfl rfl rfl rfl rfl z0 z1 k1 k2 k3 k4 g1 (by omega) (by omega) hn (by omega)
end

section
open Go.RowKit
attribute [local go_sem ↓] sliced_cut
attribute [local go_sem] cutA_zero
inductive Sx : List UInt8 → Int → Bool → Int → Prop
 | none_ : Sx [] (-1) false 20
 | four (b : UInt8) (r : List UInt8) (h : b.toNat / 16 = 4) : Sx (b :: r) 4 false 0
 | six (b : UInt8) (r : List UInt8) (h : b.toNat / 16 = 6) : Sx (b :: r) 6 true 0
 | other (b : UInt8) (r : List UInt8) (h4 : b.toNat / 16 ≠ 4) (h6 : b.toNat / 16 ≠ 6) : Sx (b :: r) 0 false 21
theorem sx_any (l : List UInt8) : ∃ N B E, Sx l N B E := by
 cases l with
 | nil => exact ⟨_, _, _, .none_⟩
 | cons b r =>
  by_cases h4 : b.toNat / 16 = 4
  ·exact ⟨_, _, _, .four b r h4⟩
  ·by_cases h6 : b.toNat / 16 = 6
   ·exact ⟨_, _, _, .six b r h6⟩
   ·exact ⟨_, _, _, .other b r h4 h6⟩
def wyC (s6 : Bool) (sh sl : Nat) (d6 : Bool) (dh dl tl : Nat) : List Value := [.bool s6, .int .u64 (sh : Int), .int .u64 (sl : Int), .bool d6, .int .u64 (dh : Int), .int .u64 (dl : Int), .int .u8 (tl : Int)]
def RetTO (w : World) (load : List UInt8) (s6 : Bool) (sh sl : Nat) (d6 : Bool) (dh dl tl : Nat) (nr : Nat) (E : Int) (e : Ending) (w' : World) : Prop := ∃ A n k bs d, e = .returned (.tuple #[.slice A n k, .agg (wyC s6 sh sl d6 dh dl tl).toArray, .int .u8 (nr : Int), .int .i64 E]) ∧ w' = plus w bs d ∧ Rb (plus w bs d) A n k load ∧ ∀ a, A = some a → w.heap.size ≤ a.block
theorem RetTO.mk {w w' : World} {load : List UInt8} {s6 : Bool} {sh sl : Nat} {d6 : Bool} {dh dl tl nr : Nat} {E : Int} {A : Option Addr} {n k : Nat} (h : Rb w' A n k load) (hf : ∀ a, A = some a → w.heap.size ≤ a.block) (hb : Below w.heap.size w w') : RetTO w load s6 sh sl d6 dh dl tl nr E (.returned (.tuple #[.slice A n k, .agg (wyC s6 sh sl d6 dh dl tl).toArray, .int .u8 (nr : Int), .int .i64 E])) w' := by
 obtain ⟨bs, d, rfl⟩ := plus_of hb
 exact ⟨A, n, k, bs, d, rfl, rfl, h, hf⟩
def RetTW (w : World) (load : List UInt8) (s6 : Bool) (sh sl : Nat) (d6 : Bool) (dh dl tl : Nat) (E : Int) (e : Ending) (w' : World) : Prop := ∃ A n k bs d, e = .returned (.tuple #[.slice A n k, .agg (wyC s6 sh sl d6 dh dl tl).toArray, .int .i64 E]) ∧ w' = plus w bs d ∧ Rb (plus w bs d) A n k load
theorem RetTW.mk {w w' : World} {load : List UInt8} {s6 : Bool} {sh sl : Nat} {d6 : Bool} {dh dl tl : Nat} {E : Int} {A : Option Addr} {n k : Nat} (h : Rb w' A n k load) (hb : Below w.heap.size w w') : RetTW w load s6 sh sl d6 dh dl tl E (.returned (.tuple #[.slice A n k, .agg (wyC s6 sh sl d6 dh dl tl).toArray, .int .i64 E])) w' := by
 obtain ⟨bs, d, rfl⟩ := plus_of hb
 exact ⟨A, n, k, bs, d, rfl, rfl, h⟩
set_option maxHeartbeats 4000000 in
set_option maxRecDepth 100000 in
theorem tunSix (A : Option Addr) (n c : Nat) (l : List UInt8) (w : World) (h : Rb w A n c l) (N : Int) (B : Bool) (E : Int) (s : Sx l N B E) : Calls Tryz.prog 39 #[.slice A n c] w fun e w' => e = .returned (.tuple #[.bool B, .int .i64 E]) ∧ w = w' := by
 have hl := h.1
 cases s
 case none_ =>
  obtain rfl : n = 0 := hl.symm
  go_enter Tryz.func39, Tryz.ntmps39
  go_wp2
  go_ret2
  exact ⟨rfl, rfl⟩
 case four b r h =>
  obtain ⟨g, off, rfl, hbl, hcell⟩ := h.2.2.at_ (by rw [bcs_length]; simp)
  have y0 : w.cell? ⟨g, off, none⟩ = some (.int .u8 (b.toNat : Int)) := hcell 0 _ rfl
  have n0 : 0 < n := by rw [← hl]; simp
  have i0 : (0 : Int) < (n : Int) := by omega
  have ne : ((n : Int) == 0) = false := by rw [beq_eq_false_iff_ne]; omega
  obtain ⟨q, hq⟩ : ∃ q : Nat, q = b.toNat / 16 := ⟨_, rfl⟩
  have e1 : (b.toNat : Int) / 16 = (q : Int) := by omega
  have e2 : IntKind.i64.wrap (q : Int) = (q : Int) := IntWalk.i64_in _ (by have := b.toNat_lt; omega)
  have e3 : IntKind.u8.wrap (q : Int) = (q : Int) := IntWalk.u8_in _ (by have := b.toNat_lt; omega)
  have e4 : (q : Int) % 256 = (q : Int) := by have := b.toNat_lt; omega
  generalize b.toNat = x at *
  obtain rfl : q = 4 := by omega
  clear hcell hl hq
  go_enter Tryz.func39, Tryz.ntmps39
  go_wp2
  go_ret2
  exact ⟨rfl, rfl⟩
 case six b r h =>
  obtain ⟨g, off, rfl, hbl, hcell⟩ := h.2.2.at_ (by rw [bcs_length]; simp)
  have y0 : w.cell? ⟨g, off, none⟩ = some (.int .u8 (b.toNat : Int)) := hcell 0 _ rfl
  have n0 : 0 < n := by rw [← hl]; simp
  have i0 : (0 : Int) < (n : Int) := by omega
  have ne : ((n : Int) == 0) = false := by rw [beq_eq_false_iff_ne]; omega
  obtain ⟨q, hq⟩ : ∃ q : Nat, q = b.toNat / 16 := ⟨_, rfl⟩
  have e1 : (b.toNat : Int) / 16 = (q : Int) := by omega
  have e2 : IntKind.i64.wrap (q : Int) = (q : Int) := IntWalk.i64_in _ (by have := b.toNat_lt; omega)
  have e3 : IntKind.u8.wrap (q : Int) = (q : Int) := IntWalk.u8_in _ (by have := b.toNat_lt; omega)
  have e4 : (q : Int) % 256 = (q : Int) := by have := b.toNat_lt; omega
  generalize b.toNat = x at *
  obtain rfl : q = 6 := by omega
  clear hcell hl hq
  go_enter Tryz.func39, Tryz.ntmps39
  go_wp2
  go_ret2
  exact ⟨rfl, rfl⟩
 case other b r h4 h6 =>
  obtain ⟨g, off, rfl, hbl, hcell⟩ := h.2.2.at_ (by rw [bcs_length]; simp)
  have y0 : w.cell? ⟨g, off, none⟩ = some (.int .u8 (b.toNat : Int)) := hcell 0 _ rfl
  have n0 : 0 < n := by rw [← hl]; simp
  have i0 : (0 : Int) < (n : Int) := by omega
  have ne : ((n : Int) == 0) = false := by rw [beq_eq_false_iff_ne]; omega
  obtain ⟨q, hq⟩ : ∃ q : Nat, q = b.toNat / 16 := ⟨_, rfl⟩
  have e1 : (b.toNat : Int) / 16 = (q : Int) := by omega
  have e2 : IntKind.i64.wrap (q : Int) = (q : Int) := IntWalk.i64_in _ (by have := b.toNat_lt; omega)
  have e3 : IntKind.u8.wrap (q : Int) = (q : Int) := IntWalk.u8_in _ (by have := b.toNat_lt; omega)
  have e4 : (q : Int) % 256 = (q : Int) := by have := b.toNat_lt; omega
  generalize b.toNat = x at *
  have q4 : ((q : Int) == 4) = false := by rw [beq_eq_false_iff_ne]; omega
  have q6 : ((q : Int) == 6) = false := by rw [beq_eq_false_iff_ne]; omega
  clear hcell hl hq
  go_enter Tryz.func39, Tryz.ntmps39
  go_wp2
  go_ret2
  exact ⟨rfl, rfl⟩
end

section
open Go.RowKit
attribute [local go_sem ↓] sliced_cut
attribute [local go_sem] cutA_zero
theorem Chg.wide {D D' : Nat → Prop} {w w' : World} (h : Chg D w w') (hd : ∀ b, D b → D' b) : Chg D' w w' := ⟨h.os, h.tape, h.output, h.size, fun b hb hn => h.block b hb (fun hD => hn (hd b hD))⟩
theorem one_app {a b : List Value} (ha : ∀ u ∈ a, u.oneCell' = true) (hb : ∀ u ∈ b, u.oneCell' = true) : ∀ u ∈ a ++ b, u.oneCell' = true := fun u hu => by
 rcases List.mem_append.1 hu with h | h
 ·exact ha u h
 ·exact hb u h
def fhC (si st : Bool) (tl : Nat) (s6 : Bool) (sh sl : Nat) (d6 : Bool) (dh dl sp dp pr : Nat) : List Value := [.bool si, .bool st, .int .u8 (tl : Int), .bool s6, .int .u64 (sh : Int), .int .u64 (sl : Int), .bool d6, .int .u64 (dh : Int), .int .u64 (dl : Int), .int .u16 (sp : Int), .int .u16 (dp : Int), .int .u8 (pr : Int)]
theorem fhC_one (si st : Bool) (tl : Nat) (s6 : Bool) (sh sl : Nat) (d6 : Bool) (dh dl sp dp pr : Nat) : ∀ u ∈ fhC si st tl s6 sh sl d6 dh dl sp dp pr, u.oneCell' = true := by
 intro u hu
 simp only [fhC, List.mem_cons, List.not_mem_nil, or_false] at hu
 rcases hu with rfl | rfl | rfl | rfl | rfl | rfl | rfl | rfl | rfl | rfl | rfl | rfl <;> rfl
def tcC (x0 x1 x2 x3 x4 x5 x6 x7 : Nat) (A1 : Option Addr) (n1 c1 : Nat) (A2 : Option Addr) (n2 c2 : Nat) : List Value := [.int .u16 (x0 : Int), .int .u16 (x1 : Int), .int .u32 (x2 : Int), .int .u32 (x3 : Int), .int .u8 (x4 : Int), .int .u16 (x5 : Int), .int .u16 (x6 : Int), .int .u16 (x7 : Int), .slice A1 n1 c1, .slice A2 n2 c2]
theorem tcC_one (x0 x1 x2 x3 x4 x5 x6 x7 : Nat) (A1 : Option Addr) (n1 c1 : Nat) (A2 : Option Addr) (n2 c2 : Nat) : ∀ u ∈ tcC x0 x1 x2 x3 x4 x5 x6 x7 A1 n1 c1 A2 n2 c2, u.oneCell' = true := by
 intro u hu
 simp only [tcC, List.mem_cons, List.not_mem_nil, or_false] at hu
 rcases hu with rfl | rfl | rfl | rfl | rfl | rfl | rfl | rfl | rfl | rfl <;> rfl
def inPk (F T U M : List Value) : List Value := F ++ T ++ U ++ M
def hdC (F T U M : List Value) (fr : Bool) (A : Option Addr) (n k : Nat) : List Value := F ++ T ++ U ++ M ++ [.bool fr, .slice A n k]
theorem inPk_one {F T U M : List Value} (hF : ∀ u ∈ F, u.oneCell' = true) (hT : ∀ u ∈ T, u.oneCell' = true) (hU : ∀ u ∈ U, u.oneCell' = true) (hM : ∀ u ∈ M, u.oneCell' = true) : ∀ u ∈ inPk F T U M, u.oneCell' = true := one_app (one_app (one_app hF hT) hU) hM
theorem hdC_one {F T U M : List Value} (hF : ∀ u ∈ F, u.oneCell' = true) (hT : ∀ u ∈ T, u.oneCell' = true) (hU : ∀ u ∈ U, u.oneCell' = true) (hM : ∀ u ∈ M, u.oneCell' = true) (fr : Bool) (A : Option Addr) (n k : Nat) : ∀ u ∈ hdC F T U M fr A n k, u.oneCell' = true := one_app (inPk_one hF hT hU hM) (by
 intro u hu
 simp only [List.mem_cons, List.not_mem_nil, or_false] at hu
 rcases hu with rfl | rfl <;> rfl)
theorem szHD_ {cs : List Value} (h : cs.length = 33) : (Tryz.prog.info? 111).map (·.size) = some cs.length := by rw [h]; kernel_rfl
theorem szIN_ {cs : List Value} (h : cs.length = 31) : (Tryz.prog.info? 55).map (·.size) = some cs.length := by rw [h]; kernel_rfl
def RetHp (w : World) (F : List Value) (fr : Bool) (load : List UInt8) (E : Int) (e : Ending) (w' : World) : Prop := ∃ A n k bs d, e = .returned (.tuple #[.agg (hdC (F) (tcC 0 0 0 0 0 0 0 0 none 0 0 none 0 0) (dgX 0 0 0 none 0 0) (msgC 0 0 0 0 none 0 0) fr A n k).toArray, .int .i64 E]) ∧ w' = plus w bs d ∧ Rb (plus w bs d) A n k load ∧ ∀ a, A = some a → w.heap.size ≤ a.block
theorem RetHp.mk {w w' : World} {F : List Value} {fr : Bool} {load : List UInt8} {E : Int} {A : Option Addr} {n k : Nat} (h : Rb w' A n k load) (hf : ∀ a, A = some a → w.heap.size ≤ a.block) (hb : Below w.heap.size w w') : RetHp w F fr load E (.returned (.tuple #[.agg (hdC (F) (tcC 0 0 0 0 0 0 0 0 none 0 0 none 0 0) (dgX 0 0 0 none 0 0) (msgC 0 0 0 0 none 0 0) fr A n k).toArray, .int .i64 E])) w' := by
 obtain ⟨bs, d, rfl⟩ := plus_of hb
 exact ⟨A, n, k, bs, d, rfl, rfl, h, hf⟩
def OpR (w : World) (F : List Value) (fr : Bool) (load : List UInt8) (E : Int) (e : Ending) (w' : World) : Prop := if E = 0 then RetHp w F fr load 0 e w' else RetHp w (fhC false false 0 false 0 0 false 0 0 0 0 0) false [] E e w'
theorem OpR.ok {w : World} {F : List Value} {fr : Bool} {load : List UInt8} {e : Ending} {w' : World} (h : RetHp w F fr load 0 e w') : OpR w F fr load 0 e w' := by unfold OpR; rw [if_pos rfl]; exact h
theorem OpR.err {w : World} {F : List Value} {fr : Bool} {load : List UInt8} {E : Int} {e : Ending} {w' : World} (hE : ¬ E = 0) (h : RetHp w (fhC false false 0 false 0 0 false 0 0 0 0 0) false [] E e w') : OpR w F fr load E e w' := by unfold OpR; rw [if_neg hE]; exact h
set_option maxHeartbeats 4000000
set_option maxRecDepth 100000
theorem open_err (A : Option Addr) (n c : Nat) (w : World) (B : Bool) (E : Int) (F : List Value) (fr : Bool) (load : List UInt8) (hE : (E != 0) = true) (HS : ∀ w', Below w.heap.size w w' → Calls Tryz.prog 39 #[.slice A n c] w' fun e w2 => e = .returned (.tuple #[.bool B, .int .i64 E]) ∧ w' = w2) : Calls Tryz.prog 50 #[.slice A n c] w (OpR w F fr load E) := by
 replace HS := Lib.hid HS
 have hE2 : (E == 0) = false := by rw [beq_eq_false_iff_ne]; exact bne_iff_ne.1 hE
 obtain ⟨dh_, u1, u2⟩ := rowHd
 have b3 : Bk (w.alloc (.cells #[.bool false, .bool false, .int .u8 0, .bool false, .int .u64 0, .int .u64 0, .bool false, .int .u64 0, .int .u64 0, .int .u16 0, .int .u16 0, .int .u8 0, .int .u16 0, .int .u16 0, .int .u32 0, .int .u32 0, .int .u8 0, .int .u16 0, .int .u16 0, .int .u16 0, .slice none 0 0, .slice none 0 0, .int .u16 0, .int .u16 0, .int .u16 0, .slice none 0 0, .int .u8 0, .int .u8 0, .int .u16 0, .int .u32 0, .slice none 0 0, .bool false, .slice none 0 0] 111)) w.heap.size 111 (hdC (fhC false false 0 false 0 0 false 0 0 0 0 0) (tcC 0 0 0 0 0 0 0 0 none 0 0 none 0 0) (dgX 0 0 0 none 0 0) (msgC 0 0 0 0 none 0 0) false none 0 0) := Bk.new w 111 #[.bool false, .bool false, .int .u8 0, .bool false, .int .u64 0, .int .u64 0, .bool false, .int .u64 0, .int .u64 0, .int .u16 0, .int .u16 0, .int .u8 0, .int .u16 0, .int .u16 0, .int .u32 0, .int .u32 0, .int .u8 0, .int .u16 0, .int .u16 0, .int .u16 0, .slice none 0 0, .slice none 0 0, .int .u16 0, .int .u16 0, .int .u16 0, .slice none 0 0, .int .u8 0, .int .u8 0, .int .u16 0, .int .u32 0, .slice none 0 0, .bool false, .slice none 0 0]
 have be : Below w.heap.size w (w.alloc (.cells #[.bool false, .bool false, .int .u8 0, .bool false, .int .u64 0, .int .u64 0, .bool false, .int .u64 0, .int .u64 0, .int .u16 0, .int .u16 0, .int .u8 0, .int .u16 0, .int .u16 0, .int .u32 0, .int .u32 0, .int .u8 0, .int .u16 0, .int .u16 0, .int .u16 0, .slice none 0 0, .slice none 0 0, .int .u16 0, .int .u16 0, .int .u16 0, .slice none 0 0, .int .u8 0, .int .u8 0, .int .u16 0, .int .u32 0, .slice none 0 0, .bool false, .slice none 0 0] 111)) := Below.allocS (Below.refl _ _) _
 have zV : w.heap.size + 1 ≤ (w.alloc (.cells #[.bool false, .bool false, .int .u8 0, .bool false, .int .u64 0, .int .u64 0, .bool false, .int .u64 0, .int .u64 0, .int .u16 0, .int .u16 0, .int .u8 0, .int .u16 0, .int .u16 0, .int .u32 0, .int .u32 0, .int .u8 0, .int .u16 0, .int .u16 0, .int .u16 0, .slice none 0 0, .slice none 0 0, .int .u16 0, .int .u16 0, .int .u16 0, .slice none 0 0, .int .u8 0, .int .u8 0, .int .u16 0, .int .u32 0, .slice none 0 0, .bool false, .slice none 0 0] 111)).heap.size := by simp
 go_enter Tryz.func50, Tryz.ntmps50
 go_upto_region 1 with (fail)
 generalize w.alloc (.cells #[.bool false, .bool false, .int .u8 0, .bool false, .int .u64 0, .int .u64 0, .bool false, .int .u64 0, .int .u64 0, .int .u16 0, .int .u16 0, .int .u8 0, .int .u16 0, .int .u16 0, .int .u32 0, .int .u32 0, .int .u8 0, .int .u16 0, .int .u16 0, .int .u16 0, .slice none 0 0, .slice none 0 0, .int .u16 0, .int .u16 0, .int .u16 0, .slice none 0 0, .int .u8 0, .int .u8 0, .int .u16 0, .int .u32 0, .slice none 0 0, .bool false, .slice none 0 0] 111) = V at *
 go_wp2_with fail
 refine (HS.out _ be).mono ?_
 rintro e w1 ⟨rfl, rfl⟩
 go_upto_region 3 with (fail)
 refine wp_region_lit ?_
 iterate 2 (refine wpList_plain rfl (fun K hK => ?_); go_simp; with_reducible refine hK _ _ ?_; clear hK K)
 refine wpList_stA 111 (.tmp 2) (.tmp 19) rfl rfl (hdC (fhC false false 0 false 0 0 false 0 0 0 0 0) (tcC 0 0 0 0 0 0 0 0 none 0 0 none 0 0) (dgX 0 0 0 none 0 0) (msgC 0 0 0 0 none 0 0) false none 0 0) (hdC (fhC false false 0 false 0 0 false 0 0 0 0 0) (tcC 0 0 0 0 0 0 0 0 none 0 0 none 0 0) (dgX 0 0 0 none 0 0) (msgC 0 0 0 0 none 0 0) false none 0 0) rfl (hdC_one (fhC_one _ _ _ _ _ _ _ _ _ _ _ _ ) (tcC_one _ _ _ _ _ _ _ _ _ _ _ _ _ _ ) (dgX_one _ _ _ _ _ _) (msgC_one _ _ _ _ _ _ _) _ _ _ _) rfl rfl b3 (szHD_ (by rfl)) ?_
 intro W9 h9 g9
 simp only [Act.put, qsT, qsZ, qsS]
 go_wp2
 refine bodyPost_agg2 Tryz.results50 rfl rfl h9.range u1 u2 (szHD_ (by rfl)) rfl ?_
 exact OpR.err (bne_iff_ne.1 hE) (RetHp.mk Rb.nil_ (fun a ha => by cases ha) (below_grown be g9 (by omega)))
theorem open_6 (A : Option Addr) (n c : Nat) (w : World) (cl lb ln nx ht : Nat) (s6 : Bool) (sh sl dh dl : Nat) (load : List UInt8) (E1 : Int) (HS : ∀ w', Below w.heap.size w w' → Calls Tryz.prog 39 #[.slice A n c] w' fun e w2 => e = .returned (.tuple #[.bool true, .int .i64 0]) ∧ w' = w2) (HP : ∀ w', Below w.heap.size w w' → Calls Tryz.prog 40 #[.slice A n c] w' (RetP6 w' cl lb ln nx ht s6 sh sl dh dl load E1)) : Calls Tryz.prog 50 #[.slice A n c] w (OpR w (fhC true true ht s6 sh sl s6 dh dl 0 0 nx) false load E1) := by
 obtain ⟨dp_, p1, p2⟩ := rowH6
 obtain ⟨dv_, v1, v2⟩ := rowAd
 replace HS := Lib.hid HS
 replace HP := Lib.hid HP
 obtain ⟨dh_, u1, u2⟩ := rowHd
 have b3 : Bk (w.alloc (.cells #[.bool false, .bool false, .int .u8 0, .bool false, .int .u64 0, .int .u64 0, .bool false, .int .u64 0, .int .u64 0, .int .u16 0, .int .u16 0, .int .u8 0, .int .u16 0, .int .u16 0, .int .u32 0, .int .u32 0, .int .u8 0, .int .u16 0, .int .u16 0, .int .u16 0, .slice none 0 0, .slice none 0 0, .int .u16 0, .int .u16 0, .int .u16 0, .slice none 0 0, .int .u8 0, .int .u8 0, .int .u16 0, .int .u32 0, .slice none 0 0, .bool false, .slice none 0 0] 111)) w.heap.size 111 (hdC (fhC false false 0 false 0 0 false 0 0 0 0 0) (tcC 0 0 0 0 0 0 0 0 none 0 0 none 0 0) (dgX 0 0 0 none 0 0) (msgC 0 0 0 0 none 0 0) false none 0 0) := Bk.new w 111 #[.bool false, .bool false, .int .u8 0, .bool false, .int .u64 0, .int .u64 0, .bool false, .int .u64 0, .int .u64 0, .int .u16 0, .int .u16 0, .int .u8 0, .int .u16 0, .int .u16 0, .int .u32 0, .int .u32 0, .int .u8 0, .int .u16 0, .int .u16 0, .int .u16 0, .slice none 0 0, .slice none 0 0, .int .u16 0, .int .u16 0, .int .u16 0, .slice none 0 0, .int .u8 0, .int .u8 0, .int .u16 0, .int .u32 0, .slice none 0 0, .bool false, .slice none 0 0]
 have be : Below w.heap.size w (w.alloc (.cells #[.bool false, .bool false, .int .u8 0, .bool false, .int .u64 0, .int .u64 0, .bool false, .int .u64 0, .int .u64 0, .int .u16 0, .int .u16 0, .int .u8 0, .int .u16 0, .int .u16 0, .int .u32 0, .int .u32 0, .int .u8 0, .int .u16 0, .int .u16 0, .int .u16 0, .slice none 0 0, .slice none 0 0, .int .u16 0, .int .u16 0, .int .u16 0, .slice none 0 0, .int .u8 0, .int .u8 0, .int .u16 0, .int .u32 0, .slice none 0 0, .bool false, .slice none 0 0] 111)) := Below.allocS (Below.refl _ _) _
 have zV : w.heap.size + 1 ≤ (w.alloc (.cells #[.bool false, .bool false, .int .u8 0, .bool false, .int .u64 0, .int .u64 0, .bool false, .int .u64 0, .int .u64 0, .int .u16 0, .int .u16 0, .int .u8 0, .int .u16 0, .int .u16 0, .int .u32 0, .int .u32 0, .int .u8 0, .int .u16 0, .int .u16 0, .int .u16 0, .slice none 0 0, .slice none 0 0, .int .u16 0, .int .u16 0, .int .u16 0, .slice none 0 0, .int .u8 0, .int .u8 0, .int .u16 0, .int .u32 0, .slice none 0 0, .bool false, .slice none 0 0] 111)).heap.size := by simp
 go_enter Tryz.func50, Tryz.ntmps50
 go_upto_region 1 with (fail)
 generalize w.alloc (.cells #[.bool false, .bool false, .int .u8 0, .bool false, .int .u64 0, .int .u64 0, .bool false, .int .u64 0, .int .u64 0, .int .u16 0, .int .u16 0, .int .u8 0, .int .u16 0, .int .u16 0, .int .u32 0, .int .u32 0, .int .u8 0, .int .u16 0, .int .u16 0, .int .u16 0, .slice none 0 0, .slice none 0 0, .int .u16 0, .int .u16 0, .int .u16 0, .slice none 0 0, .int .u8 0, .int .u8 0, .int .u16 0, .int .u32 0, .slice none 0 0, .bool false, .slice none 0 0] 111) = V at *
 go_wp2_with fail
 refine (HS.out _ be).mono ?_
 rintro e w1 ⟨rfl, rfl⟩
 go_upto_region 6 with (fail)
 have hX : Bk (V.alloc (.cells #[.bool false, .bool false, .int .u8 0, .bool false, .int .u64 0, .int .u64 0, .bool false, .int .u64 0, .int .u64 0, .int .u16 0, .int .u16 0, .int .u8 0, .int .u16 0, .int .u16 0, .int .u32 0, .int .u32 0, .int .u8 0, .int .u16 0, .int .u16 0, .int .u16 0, .slice none 0 0, .slice none 0 0, .int .u16 0, .int .u16 0, .int .u16 0, .slice none 0 0, .int .u8 0, .int .u8 0, .int .u16 0, .int .u32 0, .slice none 0 0, .bool false, .slice none 0 0] 111)) V.heap.size 111 (hdC (fhC false false 0 false 0 0 false 0 0 0 0 0) (tcC 0 0 0 0 0 0 0 0 none 0 0 none 0 0) (dgX 0 0 0 none 0 0) (msgC 0 0 0 0 none 0 0) false none 0 0) := Bk.new V 111 #[.bool false, .bool false, .int .u8 0, .bool false, .int .u64 0, .int .u64 0, .bool false, .int .u64 0, .int .u64 0, .int .u16 0, .int .u16 0, .int .u8 0, .int .u16 0, .int .u16 0, .int .u32 0, .int .u32 0, .int .u8 0, .int .u16 0, .int .u16 0, .int .u16 0, .slice none 0 0, .slice none 0 0, .int .u16 0, .int .u16 0, .int .u16 0, .slice none 0 0, .int .u8 0, .int .u8 0, .int .u16 0, .int .u32 0, .slice none 0 0, .bool false, .slice none 0 0]
 have zV2 : V.heap.size + 1 ≤ (V.alloc (.cells #[.bool false, .bool false, .int .u8 0, .bool false, .int .u64 0, .int .u64 0, .bool false, .int .u64 0, .int .u64 0, .int .u16 0, .int .u16 0, .int .u8 0, .int .u16 0, .int .u16 0, .int .u32 0, .int .u32 0, .int .u8 0, .int .u16 0, .int .u16 0, .int .u16 0, .slice none 0 0, .slice none 0 0, .int .u16 0, .int .u16 0, .int .u16 0, .slice none 0 0, .int .u8 0, .int .u8 0, .int .u16 0, .int .u32 0, .slice none 0 0, .bool false, .slice none 0 0] 111)).heap.size := by simp
 replace b3 := b3.alloc (.cells #[.bool false, .bool false, .int .u8 0, .bool false, .int .u64 0, .int .u64 0, .bool false, .int .u64 0, .int .u64 0, .int .u16 0, .int .u16 0, .int .u8 0, .int .u16 0, .int .u16 0, .int .u32 0, .int .u32 0, .int .u8 0, .int .u16 0, .int .u16 0, .int .u16 0, .slice none 0 0, .slice none 0 0, .int .u16 0, .int .u16 0, .int .u16 0, .slice none 0 0, .int .u8 0, .int .u8 0, .int .u16 0, .int .u32 0, .slice none 0 0, .bool false, .slice none 0 0] 111)
 replace be := Below.allocS be (.cells #[.bool false, .bool false, .int .u8 0, .bool false, .int .u64 0, .int .u64 0, .bool false, .int .u64 0, .int .u64 0, .int .u16 0, .int .u16 0, .int .u8 0, .int .u16 0, .int .u16 0, .int .u32 0, .int .u32 0, .int .u8 0, .int .u16 0, .int .u16 0, .int .u16 0, .slice none 0 0, .slice none 0 0, .int .u16 0, .int .u16 0, .int .u16 0, .slice none 0 0, .int .u8 0, .int .u8 0, .int .u16 0, .int .u32 0, .slice none 0 0, .bool false, .slice none 0 0] 111)
 generalize V.alloc (.cells #[.bool false, .bool false, .int .u8 0, .bool false, .int .u64 0, .int .u64 0, .bool false, .int .u64 0, .int .u64 0, .int .u16 0, .int .u16 0, .int .u8 0, .int .u16 0, .int .u16 0, .int .u32 0, .int .u32 0, .int .u8 0, .int .u16 0, .int .u16 0, .int .u16 0, .slice none 0 0, .slice none 0 0, .int .u16 0, .int .u16 0, .int .u16 0, .slice none 0 0, .int .u8 0, .int .u8 0, .int .u16 0, .int .u32 0, .slice none 0 0, .bool false, .slice none 0 0] 111) = V2 at *
 generalize V.heap.size = gx at *
 go_wp2_with fail
 refine (HP.out _ be).mono ?_
 rintro e w1 ⟨A1, n1, k1, bs1, d1, rfl, rfl, hl, hf⟩
 go_upto_region 7 with (refine at_op (.store 94 (.tmp 7) (.tmp 25)) rfl ?_; refine wpList_stA (t := 94) 94 (.tmp 7) (.tmp 25) rfl rfl (h6C cl lb (ln : Int) nx ht s6 sh sl s6 dh dl) (h6C 0 0 0 0 0 false 0 0 false 0 0) rfl (h6C_one _ _ _ _ _ _ _ _ _ _ _) rfl rfl ?_ (szH6 _ _ _ _ _ _ _ _ _ _ _) ?_; (· refine Bk.newK _ _ _ ?_ rfl; simp [size_plus]); intro W8 hH gr8)
 have z0 := be.size
 have b8 := below_grown (Below.allocS (below_plus V2 bs1 d1) _) gr8 (by omega)
 replace be := be.trans (b8.mono z0)
 replace b3 := b3.later b8
 replace hX := hX.later b8
 replace hl := hl.later (below_grown (Below.allocS (Below.refl _ _) _) gr8 (by simp [size_plus]))
 have zh : gx < V2.heap.size + bs1.length := by omega
 clear b8 gr8
 generalize V2.heap.size + bs1.length = gh at *
 have nH : ¬ (fun b => b = w.heap.size ∨ b = gx) gh := fun h => by have h' : gh = w.heap.size ∨ gh = gx := h; omega
 have nR : ¬ (fun b => b = gx) w.heap.size := fun h => by have h' : w.heap.size = gx := h; omega
 have nH1 : ¬ (fun b => b = gx) gh := fun h => by have h' : gh = gx := h; omega
 have hC : Chg (fun b => b = gx) W8 W8 := Chg.refl _
 have nL : ∀ a, A1 = some a → ¬ (fun b => b = w.heap.size ∨ b = gx) a.block := fun a ha h => by have h' : a.block = w.heap.size ∨ a.block = gx := h; have := hf a ha; omega
 by_cases hE : E1 = 0
 case neg =>
  have hE1 : (E1 != 0) = true := by rw [bne_iff_ne]; exact hE
  have hE2 : (E1 == 0) = false := by rw [beq_eq_false_iff_ne]; exact hE
  go_upto_region 8 with (fail)
  refine wp_region_lit ?_
  iterate 2 (refine wpList_plain rfl (fun K hK => ?_); go_simp; with_reducible refine hK _ _ ?_; clear hK K)
  refine wpList_stA 111 (.tmp 2) (.tmp 30) rfl rfl (hdC (fhC false false 0 false 0 0 false 0 0 0 0 0) (tcC 0 0 0 0 0 0 0 0 none 0 0 none 0 0) (dgX 0 0 0 none 0 0) (msgC 0 0 0 0 none 0 0) false none 0 0) (hdC (fhC false false 0 false 0 0 false 0 0 0 0 0) (tcC 0 0 0 0 0 0 0 0 none 0 0 none 0 0) (dgX 0 0 0 none 0 0) (msgC 0 0 0 0 none 0 0) false none 0 0) rfl (hdC_one (fhC_one _ _ _ _ _ _ _ _ _ _ _ _ ) (tcC_one _ _ _ _ _ _ _ _ _ _ _ _ _ _ ) (dgX_one _ _ _ _ _ _) (msgC_one _ _ _ _ _ _ _) _ _ _ _) rfl rfl b3 (szHD_ (by rfl)) ?_
  intro W9 h9 g9
  simp only [Act.put, qsT, qsZ, qsS]
  go_wp2
  refine bodyPost_agg2 Tryz.results50 rfl rfl h9.range u1 u2 (szHD_ (by rfl)) rfl ?_
  exact OpR.err hE (RetHp.mk Rb.nil_ (fun a ha => by cases ha) (below_grown be g9 (by omega)))
 subst hE
 go_upto_region 9 with (fail)
 refine wp_region_lit ?_
 iterate 2 (refine wpList_plain rfl (fun K hK => ?_); go_simp; with_reducible refine hK _ _ ?_; clear hK K)
 refine wpList_st1 37 (.tmp 33) (.tmp 32) rfl rfl (by rfl) (by rfl) hX (Nat.le_of_ble_eq_true rfl) rfl (by kernel_rfl) ?_
 intro W1 hX' gr'
 replace hX : Bk W1 gx 111 (hdC (fhC false false 0 false 0 0 false 0 0 0 0 0) (tcC 0 0 0 0 0 0 0 0 none 0 0 none 0 0) (dgX 0 0 0 none 0 0) (msgC 0 0 0 0 none 0 0) false A1 n1 k1) := hX'
 replace hC := hC.trans (Chg.one gr' rfl)
 clear hX' gr'
 simp only [Act.put, qsT, qsZ, qsS]
 go_upto_region 10 with (fail)
 refine wp_region_lit ?_
 refine wpList_plain rfl (fun K hK => ?_); go_simp; with_reducible refine hK _ _ ?_; clear hK K
 refine wpList_ld1 (t := 94) (cs := h6C cl lb (ln : Int) nx ht s6 sh sl s6 dh dl) 5 (.tmp 34) rfl (by rfl) rfl ((hH.chg hC nH1)) rfl Tryz.underlying5 rfl ?_
 iterate 2 (refine wpList_plain rfl (fun K hK => ?_); go_simp; with_reducible refine hK _ _ ?_; clear hK K)
 refine wpList_stM 55 (.tmp 37) (.tmp 36) rfl rfl (inPk (fhC true true ht false 0 0 false 0 0 0 0 0) (tcC 0 0 0 0 0 0 0 0 none 0 0 none 0 0) (dgX 0 0 0 none 0 0) (msgC 0 0 0 0 none 0 0)) (hdC (fhC false false 0 false 0 0 false 0 0 0 0 0) (tcC 0 0 0 0 0 0 0 0 none 0 0 none 0 0) (dgX 0 0 0 none 0 0) (msgC 0 0 0 0 none 0 0) false A1 n1 k1) (Nat.le_of_ble_eq_true rfl) (inPk_one (fhC_one _ _ _ _ _ _ _ _ _ _ _ _ ) (tcC_one _ _ _ _ _ _ _ _ _ _ _ _ _ _ ) (dgX_one _ _ _ _ _ _) (msgC_one _ _ _ _ _ _ _)) (by rfl) (by rfl) hX (szIN_ (by rfl)) ?_
 intro W4 hX' gr'
 replace hX : Bk W4 gx 111 (hdC (fhC true true ht false 0 0 false 0 0 0 0 0) (tcC 0 0 0 0 0 0 0 0 none 0 0 none 0 0) (dgX 0 0 0 none 0 0) (msgC 0 0 0 0 none 0 0) false A1 n1 k1) := hX'
 replace hC := hC.trans (Chg.one gr' rfl)
 clear hX' gr'
 simp only [Act.put, qsT, qsZ, qsS]
 go_upto_region 11 with (fail)
 refine wp_region_lit ?_
 refine wpList_plain rfl (fun K hK => ?_); go_simp; with_reducible refine hK _ _ ?_; clear hK K
 refine wpList_ldA (t := 94) (cs := h6C cl lb (ln : Int) nx ht s6 sh sl s6 dh dl) 24 (.tmp 38) rfl rfl ([.bool s6, .int .u64 (sh : Int), .int .u64 (sl : Int)]) rfl ((hH.chg hC nH1)) rfl v1 v2 (szAd _ _ _) ?_
 refine wpList_plain rfl (fun K hK => ?_); go_simp; with_reducible refine hK _ _ ?_; clear hK K
 refine wpList_ldA (t := 94) (cs := h6C cl lb (ln : Int) nx ht s6 sh sl s6 dh dl) 24 (.tmp 40) rfl rfl ([.bool s6, .int .u64 (dh : Int), .int .u64 (dl : Int)]) rfl ((hH.chg hC nH1)) rfl v1 v2 (szAd _ _ _) ?_
 refine wpList_plain rfl (fun K hK => ?_); go_simp; with_reducible refine hK _ _ ?_; clear hK K
 refine wpList_ld1 (t := 94) (cs := h6C cl lb (ln : Int) nx ht s6 sh sl s6 dh dl) 5 (.tmp 42) rfl (by rfl) rfl ((hH.chg hC nH1)) rfl Tryz.underlying5 rfl ?_
 iterate 3 (refine wpList_plain rfl (fun K hK => ?_); go_simp; with_reducible refine hK _ _ ?_; clear hK K)
 refine wpList_stM 27 (.tmp 46) (.tmp 44) rfl rfl (flC s6 sh sl s6 dh dl 0 0 nx) (hdC (fhC true true ht false 0 0 false 0 0 0 0 0) (tcC 0 0 0 0 0 0 0 0 none 0 0 none 0 0) (dgX 0 0 0 none 0 0) (msgC 0 0 0 0 none 0 0) false A1 n1 k1) (Nat.le_of_ble_eq_true rfl) (flC_one _ _ _ _ _ _ _ _ _ ) (by rfl) (by rfl) hX (szFl _ _ _ _ _ _ _ _ _ ) ?_
 intro W5 hX' gr'
 replace hX : Bk W5 gx 111 (hdC (fhC true true ht s6 sh sl s6 dh dl 0 0 nx) (tcC 0 0 0 0 0 0 0 0 none 0 0 none 0 0) (dgX 0 0 0 none 0 0) (msgC 0 0 0 0 none 0 0) false A1 n1 k1) := hX'
 replace hC := hC.trans (Chg.one gr' rfl)
 clear hX' gr'
 simp only [Act.put, qsT, qsZ, qsS]
 go_upto_region 12 with (fail)
 refine wp_region_lit ?_
 refine wpList_ldA (t := 111) 111 (.tmp 6) rfl rfl (hdC (fhC true true ht s6 sh sl s6 dh dl 0 0 nx) (tcC 0 0 0 0 0 0 0 0 none 0 0 none 0 0) (dgX 0 0 0 none 0 0) (msgC 0 0 0 0 none 0 0) false A1 n1 k1) rfl (hX) (whole_ _) u1 u2 (szHD_ (by rfl)) ?_
 simp only [Act.put, qsT, qsZ, qsS]
 refine wpList_stA 111 (.tmp 2) (.tmp 47) rfl rfl (hdC (fhC true true ht s6 sh sl s6 dh dl 0 0 nx) (tcC 0 0 0 0 0 0 0 0 none 0 0 none 0 0) (dgX 0 0 0 none 0 0) (msgC 0 0 0 0 none 0 0) false A1 n1 k1) (hdC (fhC false false 0 false 0 0 false 0 0 0 0 0) (tcC 0 0 0 0 0 0 0 0 none 0 0 none 0 0) (dgX 0 0 0 none 0 0) (msgC 0 0 0 0 none 0 0) false none 0 0) rfl (hdC_one (fhC_one _ _ _ _ _ _ _ _ _ _ _ _ ) (tcC_one _ _ _ _ _ _ _ _ _ _ _ _ _ _ ) (dgX_one _ _ _ _ _ _) (msgC_one _ _ _ _ _ _ _) _ _ _ _) rfl rfl (b3.chg hC nR) (szHD_ (by rfl)) ?_
 intro W9 h9 g9
 replace hC := (hC.wide (D' := fun b => b = w.heap.size ∨ b = gx) (fun b hb => .inr hb)).trans (Chg.one g9 (.inl rfl))
 simp only [Act.put, qsT, qsZ, qsS]
 go_wp2
 refine bodyPost_agg2 Tryz.results50 rfl rfl h9.range u1 u2 (szHD_ (by rfl)) rfl ?_
 refine OpR.ok (RetHp.mk (hl.chg hC nL) (fun a ha => by have := hf a ha; omega) (be.trans (hC.below (B := w.heap.size) (fun b hb => ?_) be.size)))
 have hb' : b = w.heap.size ∨ b = gx := hb
 omega
theorem open_4 (A : Option Addr) (n c : Nat) (w : World) (ts ln id : Nat) (st mo : Bool) (fo tl pr sm sa da : Nat) (o load : List UInt8) (E1 : Int) (HS : ∀ w', Below w.heap.size w w' → Calls Tryz.prog 39 #[.slice A n c] w' fun e w2 => e = .returned (.tuple #[.bool false, .int .i64 0]) ∧ w' = w2) (HP : ∀ w', Below w.heap.size w w' → Calls Tryz.prog 42 #[.slice A n c] w' (RetPE w' ts ln id st mo fo tl pr sm sa da o load E1)) : Calls Tryz.prog 50 #[.slice A n c] w (OpR w (fhC false st tl false 0 sa false 0 da 0 0 pr) (mo || decide (0 < (fo : Int))) load E1) := by
 obtain ⟨dp_, p1, p2⟩ := rowH4
 obtain ⟨dv_, v1, v2⟩ := rowAd
 replace HS := Lib.hid HS
 replace HP := Lib.hid HP
 have HFR0 := fun A n k w => fragment4 ts (ln : Int) id st mo (fo : Int) tl pr sm false 0 sa false 0 da A n k w
 generalize (mo || decide (0 < (fo : Int))) = fr at *
 have HFR := Lib.hid HFR0
 clear HFR0
 obtain ⟨dh_, u1, u2⟩ := rowHd
 have b3 : Bk (w.alloc (.cells #[.bool false, .bool false, .int .u8 0, .bool false, .int .u64 0, .int .u64 0, .bool false, .int .u64 0, .int .u64 0, .int .u16 0, .int .u16 0, .int .u8 0, .int .u16 0, .int .u16 0, .int .u32 0, .int .u32 0, .int .u8 0, .int .u16 0, .int .u16 0, .int .u16 0, .slice none 0 0, .slice none 0 0, .int .u16 0, .int .u16 0, .int .u16 0, .slice none 0 0, .int .u8 0, .int .u8 0, .int .u16 0, .int .u32 0, .slice none 0 0, .bool false, .slice none 0 0] 111)) w.heap.size 111 (hdC (fhC false false 0 false 0 0 false 0 0 0 0 0) (tcC 0 0 0 0 0 0 0 0 none 0 0 none 0 0) (dgX 0 0 0 none 0 0) (msgC 0 0 0 0 none 0 0) false none 0 0) := Bk.new w 111 #[.bool false, .bool false, .int .u8 0, .bool false, .int .u64 0, .int .u64 0, .bool false, .int .u64 0, .int .u64 0, .int .u16 0, .int .u16 0, .int .u8 0, .int .u16 0, .int .u16 0, .int .u32 0, .int .u32 0, .int .u8 0, .int .u16 0, .int .u16 0, .int .u16 0, .slice none 0 0, .slice none 0 0, .int .u16 0, .int .u16 0, .int .u16 0, .slice none 0 0, .int .u8 0, .int .u8 0, .int .u16 0, .int .u32 0, .slice none 0 0, .bool false, .slice none 0 0]
 have be : Below w.heap.size w (w.alloc (.cells #[.bool false, .bool false, .int .u8 0, .bool false, .int .u64 0, .int .u64 0, .bool false, .int .u64 0, .int .u64 0, .int .u16 0, .int .u16 0, .int .u8 0, .int .u16 0, .int .u16 0, .int .u32 0, .int .u32 0, .int .u8 0, .int .u16 0, .int .u16 0, .int .u16 0, .slice none 0 0, .slice none 0 0, .int .u16 0, .int .u16 0, .int .u16 0, .slice none 0 0, .int .u8 0, .int .u8 0, .int .u16 0, .int .u32 0, .slice none 0 0, .bool false, .slice none 0 0] 111)) := Below.allocS (Below.refl _ _) _
 have zV : w.heap.size + 1 ≤ (w.alloc (.cells #[.bool false, .bool false, .int .u8 0, .bool false, .int .u64 0, .int .u64 0, .bool false, .int .u64 0, .int .u64 0, .int .u16 0, .int .u16 0, .int .u8 0, .int .u16 0, .int .u16 0, .int .u32 0, .int .u32 0, .int .u8 0, .int .u16 0, .int .u16 0, .int .u16 0, .slice none 0 0, .slice none 0 0, .int .u16 0, .int .u16 0, .int .u16 0, .slice none 0 0, .int .u8 0, .int .u8 0, .int .u16 0, .int .u32 0, .slice none 0 0, .bool false, .slice none 0 0] 111)).heap.size := by simp
 go_enter Tryz.func50, Tryz.ntmps50
 go_upto_region 1 with (fail)
 generalize w.alloc (.cells #[.bool false, .bool false, .int .u8 0, .bool false, .int .u64 0, .int .u64 0, .bool false, .int .u64 0, .int .u64 0, .int .u16 0, .int .u16 0, .int .u8 0, .int .u16 0, .int .u16 0, .int .u32 0, .int .u32 0, .int .u8 0, .int .u16 0, .int .u16 0, .int .u16 0, .slice none 0 0, .slice none 0 0, .int .u16 0, .int .u16 0, .int .u16 0, .slice none 0 0, .int .u8 0, .int .u8 0, .int .u16 0, .int .u32 0, .slice none 0 0, .bool false, .slice none 0 0] 111) = V at *
 go_wp2_with fail
 refine (HS.out _ be).mono ?_
 rintro e w1 ⟨rfl, rfl⟩
 go_upto_region 13 with (fail)
 have hX : Bk (V.alloc (.cells #[.bool false, .bool false, .int .u8 0, .bool false, .int .u64 0, .int .u64 0, .bool false, .int .u64 0, .int .u64 0, .int .u16 0, .int .u16 0, .int .u8 0, .int .u16 0, .int .u16 0, .int .u32 0, .int .u32 0, .int .u8 0, .int .u16 0, .int .u16 0, .int .u16 0, .slice none 0 0, .slice none 0 0, .int .u16 0, .int .u16 0, .int .u16 0, .slice none 0 0, .int .u8 0, .int .u8 0, .int .u16 0, .int .u32 0, .slice none 0 0, .bool false, .slice none 0 0] 111)) V.heap.size 111 (hdC (fhC false false 0 false 0 0 false 0 0 0 0 0) (tcC 0 0 0 0 0 0 0 0 none 0 0 none 0 0) (dgX 0 0 0 none 0 0) (msgC 0 0 0 0 none 0 0) false none 0 0) := Bk.new V 111 #[.bool false, .bool false, .int .u8 0, .bool false, .int .u64 0, .int .u64 0, .bool false, .int .u64 0, .int .u64 0, .int .u16 0, .int .u16 0, .int .u8 0, .int .u16 0, .int .u16 0, .int .u32 0, .int .u32 0, .int .u8 0, .int .u16 0, .int .u16 0, .int .u16 0, .slice none 0 0, .slice none 0 0, .int .u16 0, .int .u16 0, .int .u16 0, .slice none 0 0, .int .u8 0, .int .u8 0, .int .u16 0, .int .u32 0, .slice none 0 0, .bool false, .slice none 0 0]
 have zV2 : V.heap.size + 1 ≤ (V.alloc (.cells #[.bool false, .bool false, .int .u8 0, .bool false, .int .u64 0, .int .u64 0, .bool false, .int .u64 0, .int .u64 0, .int .u16 0, .int .u16 0, .int .u8 0, .int .u16 0, .int .u16 0, .int .u32 0, .int .u32 0, .int .u8 0, .int .u16 0, .int .u16 0, .int .u16 0, .slice none 0 0, .slice none 0 0, .int .u16 0, .int .u16 0, .int .u16 0, .slice none 0 0, .int .u8 0, .int .u8 0, .int .u16 0, .int .u32 0, .slice none 0 0, .bool false, .slice none 0 0] 111)).heap.size := by simp
 replace b3 := b3.alloc (.cells #[.bool false, .bool false, .int .u8 0, .bool false, .int .u64 0, .int .u64 0, .bool false, .int .u64 0, .int .u64 0, .int .u16 0, .int .u16 0, .int .u8 0, .int .u16 0, .int .u16 0, .int .u32 0, .int .u32 0, .int .u8 0, .int .u16 0, .int .u16 0, .int .u16 0, .slice none 0 0, .slice none 0 0, .int .u16 0, .int .u16 0, .int .u16 0, .slice none 0 0, .int .u8 0, .int .u8 0, .int .u16 0, .int .u32 0, .slice none 0 0, .bool false, .slice none 0 0] 111)
 replace be := Below.allocS be (.cells #[.bool false, .bool false, .int .u8 0, .bool false, .int .u64 0, .int .u64 0, .bool false, .int .u64 0, .int .u64 0, .int .u16 0, .int .u16 0, .int .u8 0, .int .u16 0, .int .u16 0, .int .u32 0, .int .u32 0, .int .u8 0, .int .u16 0, .int .u16 0, .int .u16 0, .slice none 0 0, .slice none 0 0, .int .u16 0, .int .u16 0, .int .u16 0, .slice none 0 0, .int .u8 0, .int .u8 0, .int .u16 0, .int .u32 0, .slice none 0 0, .bool false, .slice none 0 0] 111)
 generalize V.alloc (.cells #[.bool false, .bool false, .int .u8 0, .bool false, .int .u64 0, .int .u64 0, .bool false, .int .u64 0, .int .u64 0, .int .u16 0, .int .u16 0, .int .u8 0, .int .u16 0, .int .u16 0, .int .u32 0, .int .u32 0, .int .u8 0, .int .u16 0, .int .u16 0, .int .u16 0, .slice none 0 0, .slice none 0 0, .int .u16 0, .int .u16 0, .int .u16 0, .slice none 0 0, .int .u8 0, .int .u8 0, .int .u16 0, .int .u32 0, .slice none 0 0, .bool false, .slice none 0 0] 111) = V2 at *
 generalize V.heap.size = gx at *
 go_wp2_with fail
 refine (HP.out _ be).mono ?_
 rintro e w1 ⟨Ao, no, ko, A1, n1, k1, bs1, d1, rfl, rfl, -, hl, hf⟩
 go_upto_region 14 with (refine at_op (.store 99 (.tmp 10) (.tmp 51)) rfl ?_; refine wpList_stA (t := 99) 99 (.tmp 10) (.tmp 51) rfl rfl (h4C ts (ln : Int) id st mo (fo : Int) tl pr sm false 0 sa false 0 da Ao no ko) (h4C 0 0 0 false false 0 0 0 0 false 0 0 false 0 0 none 0 0) rfl (h4C_one _ _ _ _ _ _ _ _ _ _ _ _ _ _ _ _ _ _) rfl rfl ?_ (szH4 _ _ _ _ _ _ _ _ _ _ _ _ _ _ _ _ _ _) ?_; (· refine Bk.newK _ _ _ ?_ rfl; simp [size_plus]); intro W8 hH gr8)
 have z0 := be.size
 have b8 := below_grown (Below.allocS (below_plus V2 bs1 d1) _) gr8 (by omega)
 replace be := be.trans (b8.mono z0)
 replace b3 := b3.later b8
 replace hX := hX.later b8
 replace hl := hl.later (below_grown (Below.allocS (Below.refl _ _) _) gr8 (by simp [size_plus]))
 have zh : gx < V2.heap.size + bs1.length := by omega
 clear b8 gr8
 generalize V2.heap.size + bs1.length = gh at *
 have nH : ¬ (fun b => b = w.heap.size ∨ b = gx) gh := fun h => by have h' : gh = w.heap.size ∨ gh = gx := h; omega
 have nR : ¬ (fun b => b = gx) w.heap.size := fun h => by have h' : w.heap.size = gx := h; omega
 have nH1 : ¬ (fun b => b = gx) gh := fun h => by have h' : gh = gx := h; omega
 have hC : Chg (fun b => b = gx) W8 W8 := Chg.refl _
 have nL : ∀ a, A1 = some a → ¬ (fun b => b = w.heap.size ∨ b = gx) a.block := fun a ha h => by have h' : a.block = w.heap.size ∨ a.block = gx := h; have := hf a ha; omega
 by_cases hE : E1 = 0
 case neg =>
  have hE1 : (E1 != 0) = true := by rw [bne_iff_ne]; exact hE
  have hE2 : (E1 == 0) = false := by rw [beq_eq_false_iff_ne]; exact hE
  go_upto_region 15 with (fail)
  refine wp_region_lit ?_
  iterate 2 (refine wpList_plain rfl (fun K hK => ?_); go_simp; with_reducible refine hK _ _ ?_; clear hK K)
  refine wpList_stA 111 (.tmp 2) (.tmp 56) rfl rfl (hdC (fhC false false 0 false 0 0 false 0 0 0 0 0) (tcC 0 0 0 0 0 0 0 0 none 0 0 none 0 0) (dgX 0 0 0 none 0 0) (msgC 0 0 0 0 none 0 0) false none 0 0) (hdC (fhC false false 0 false 0 0 false 0 0 0 0 0) (tcC 0 0 0 0 0 0 0 0 none 0 0 none 0 0) (dgX 0 0 0 none 0 0) (msgC 0 0 0 0 none 0 0) false none 0 0) rfl (hdC_one (fhC_one _ _ _ _ _ _ _ _ _ _ _ _ ) (tcC_one _ _ _ _ _ _ _ _ _ _ _ _ _ _ ) (dgX_one _ _ _ _ _ _) (msgC_one _ _ _ _ _ _ _) _ _ _ _) rfl rfl b3 (szHD_ (by rfl)) ?_
  intro W9 h9 g9
  simp only [Act.put, qsT, qsZ, qsS]
  go_wp2
  refine bodyPost_agg2 Tryz.results50 rfl rfl h9.range u1 u2 (szHD_ (by rfl)) rfl ?_
  exact OpR.err hE (RetHp.mk Rb.nil_ (fun a ha => by cases ha) (below_grown be g9 (by omega)))
 subst hE
 go_upto_region 16 with (fail)
 refine wp_region_lit ?_
 refine wpList_plain rfl (fun K hK => ?_); go_simp; with_reducible refine hK _ _ ?_; clear hK K
 refine wpList_ldA (t := 99) 99 (.tmp 10) rfl rfl (h4C ts (ln : Int) id st mo (fo : Int) tl pr sm false 0 sa false 0 da Ao no ko) rfl (hH) (whole_ _) p1 p2 (szH4 _ _ _ _ _ _ _ _ _ _ _ _ _ _ _ _ _ _) ?_
 refine wpList_plain rfl (fun K hK => ?_)
 go_simp
 refine (HFR.out _ _ _ _).mono ?_
 rintro e w1 ⟨bs2, d2, rfl, rfl⟩
 with_reducible refine hK _ _ ?_
 clear hK K
 replace hC := hC.trans (Chg.of_below (below_plus W8 bs2 d2))
 replace hX := hX.later (below_plus W8 bs2 d2)
 generalize plus W8 bs2 d2 = W1 at *
 refine wpList_plain rfl (fun K hK => ?_); go_simp; with_reducible refine hK _ _ ?_; clear hK K
 refine wpList_st1 37 (.tmp 61) (.tmp 58) rfl rfl (by rfl) (by rfl) hX (Nat.le_of_ble_eq_true rfl) rfl (by kernel_rfl) ?_
 intro W2 hX' gr'
 replace hX : Bk W2 gx 111 (hdC (fhC false false 0 false 0 0 false 0 0 0 0 0) (tcC 0 0 0 0 0 0 0 0 none 0 0 none 0 0) (dgX 0 0 0 none 0 0) (msgC 0 0 0 0 none 0 0) false A1 n1 k1) := hX'
 replace hC := hC.trans (Chg.one gr' rfl)
 clear hX' gr'
 refine wpList_plain rfl (fun K hK => ?_); go_simp; with_reducible refine hK _ _ ?_; clear hK K
 refine wpList_st1 4 (.tmp 62) (.tmp 60) rfl rfl (by rfl) (by rfl) hX (Nat.le_of_ble_eq_true rfl) rfl (by kernel_rfl) ?_
 intro W3 hX' gr'
 replace hX : Bk W3 gx 111 (hdC (fhC false false 0 false 0 0 false 0 0 0 0 0) (tcC 0 0 0 0 0 0 0 0 none 0 0 none 0 0) (dgX 0 0 0 none 0 0) (msgC 0 0 0 0 none 0 0) fr A1 n1 k1) := hX'
 replace hC := hC.trans (Chg.one gr' rfl)
 clear hX' gr'
 simp only [Act.put, qsT, qsZ, qsS]
 go_upto_region 17 with (fail)
 refine wp_region_lit ?_
 refine wpList_plain rfl (fun K hK => ?_); go_simp; with_reducible refine hK _ _ ?_; clear hK K
 refine wpList_ld1 (t := 99) (cs := h4C ts (ln : Int) id st mo (fo : Int) tl pr sm false 0 sa false 0 da Ao no ko) 4 (.tmp 63) rfl (by rfl) rfl ((hH.chg hC nH1)) rfl Tryz.underlying4 rfl ?_
 refine wpList_plain rfl (fun K hK => ?_); go_simp; with_reducible refine hK _ _ ?_; clear hK K
 refine wpList_ld1 (t := 99) (cs := h4C ts (ln : Int) id st mo (fo : Int) tl pr sm false 0 sa false 0 da Ao no ko) 5 (.tmp 65) rfl (by rfl) rfl ((hH.chg hC nH1)) rfl Tryz.underlying5 rfl ?_
 iterate 2 (refine wpList_plain rfl (fun K hK => ?_); go_simp; with_reducible refine hK _ _ ?_; clear hK K)
 refine wpList_stM 55 (.tmp 68) (.tmp 67) rfl rfl (inPk (fhC false st tl false 0 0 false 0 0 0 0 0) (tcC 0 0 0 0 0 0 0 0 none 0 0 none 0 0) (dgX 0 0 0 none 0 0) (msgC 0 0 0 0 none 0 0)) (hdC (fhC false false 0 false 0 0 false 0 0 0 0 0) (tcC 0 0 0 0 0 0 0 0 none 0 0 none 0 0) (dgX 0 0 0 none 0 0) (msgC 0 0 0 0 none 0 0) fr A1 n1 k1) (Nat.le_of_ble_eq_true rfl) (inPk_one (fhC_one _ _ _ _ _ _ _ _ _ _ _ _ ) (tcC_one _ _ _ _ _ _ _ _ _ _ _ _ _ _ ) (dgX_one _ _ _ _ _ _) (msgC_one _ _ _ _ _ _ _)) (by rfl) (by rfl) hX (szIN_ (by rfl)) ?_
 intro W4 hX' gr'
 replace hX : Bk W4 gx 111 (hdC (fhC false st tl false 0 0 false 0 0 0 0 0) (tcC 0 0 0 0 0 0 0 0 none 0 0 none 0 0) (dgX 0 0 0 none 0 0) (msgC 0 0 0 0 none 0 0) fr A1 n1 k1) := hX'
 replace hC := hC.trans (Chg.one gr' rfl)
 clear hX' gr'
 simp only [Act.put, qsT, qsZ, qsS]
 go_upto_region 18 with (fail)
 refine wp_region_lit ?_
 refine wpList_plain rfl (fun K hK => ?_); go_simp; with_reducible refine hK _ _ ?_; clear hK K
 refine wpList_ldA (t := 99) (cs := h4C ts (ln : Int) id st mo (fo : Int) tl pr sm false 0 sa false 0 da Ao no ko) 24 (.tmp 69) rfl rfl ([.bool false, .int .u64 (0 : Int), .int .u64 (sa : Int)]) rfl ((hH.chg hC nH1)) rfl v1 v2 (szAd _ _ _) ?_
 refine wpList_plain rfl (fun K hK => ?_); go_simp; with_reducible refine hK _ _ ?_; clear hK K
 refine wpList_ldA (t := 99) (cs := h4C ts (ln : Int) id st mo (fo : Int) tl pr sm false 0 sa false 0 da Ao no ko) 24 (.tmp 71) rfl rfl ([.bool false, .int .u64 (0 : Int), .int .u64 (da : Int)]) rfl ((hH.chg hC nH1)) rfl v1 v2 (szAd _ _ _) ?_
 refine wpList_plain rfl (fun K hK => ?_); go_simp; with_reducible refine hK _ _ ?_; clear hK K
 refine wpList_ld1 (t := 99) (cs := h4C ts (ln : Int) id st mo (fo : Int) tl pr sm false 0 sa false 0 da Ao no ko) 5 (.tmp 73) rfl (by rfl) rfl ((hH.chg hC nH1)) rfl Tryz.underlying5 rfl ?_
 iterate 3 (refine wpList_plain rfl (fun K hK => ?_); go_simp; with_reducible refine hK _ _ ?_; clear hK K)
 refine wpList_stM 27 (.tmp 77) (.tmp 75) rfl rfl (flC false 0 sa false 0 da 0 0 pr) (hdC (fhC false st tl false 0 0 false 0 0 0 0 0) (tcC 0 0 0 0 0 0 0 0 none 0 0 none 0 0) (dgX 0 0 0 none 0 0) (msgC 0 0 0 0 none 0 0) fr A1 n1 k1) (Nat.le_of_ble_eq_true rfl) (flC_one _ _ _ _ _ _ _ _ _ ) (by rfl) (by rfl) hX (szFl _ _ _ _ _ _ _ _ _ ) ?_
 intro W5 hX' gr'
 replace hX : Bk W5 gx 111 (hdC (fhC false st tl false 0 sa false 0 da 0 0 pr) (tcC 0 0 0 0 0 0 0 0 none 0 0 none 0 0) (dgX 0 0 0 none 0 0) (msgC 0 0 0 0 none 0 0) fr A1 n1 k1) := hX'
 replace hC := hC.trans (Chg.one gr' rfl)
 clear hX' gr'
 simp only [Act.put, qsT, qsZ, qsS]
 go_upto_region 19 with (fail)
 refine wp_region_lit ?_
 refine wpList_ldA (t := 111) 111 (.tmp 6) rfl rfl (hdC (fhC false st tl false 0 sa false 0 da 0 0 pr) (tcC 0 0 0 0 0 0 0 0 none 0 0 none 0 0) (dgX 0 0 0 none 0 0) (msgC 0 0 0 0 none 0 0) fr A1 n1 k1) rfl (hX) (whole_ _) u1 u2 (szHD_ (by rfl)) ?_
 simp only [Act.put, qsT, qsZ, qsS]
 refine wpList_stA 111 (.tmp 2) (.tmp 78) rfl rfl (hdC (fhC false st tl false 0 sa false 0 da 0 0 pr) (tcC 0 0 0 0 0 0 0 0 none 0 0 none 0 0) (dgX 0 0 0 none 0 0) (msgC 0 0 0 0 none 0 0) fr A1 n1 k1) (hdC (fhC false false 0 false 0 0 false 0 0 0 0 0) (tcC 0 0 0 0 0 0 0 0 none 0 0 none 0 0) (dgX 0 0 0 none 0 0) (msgC 0 0 0 0 none 0 0) false none 0 0) rfl (hdC_one (fhC_one _ _ _ _ _ _ _ _ _ _ _ _ ) (tcC_one _ _ _ _ _ _ _ _ _ _ _ _ _ _ ) (dgX_one _ _ _ _ _ _) (msgC_one _ _ _ _ _ _ _) _ _ _ _) rfl rfl (b3.chg hC nR) (szHD_ (by rfl)) ?_
 intro W9 h9 g9
 replace hC := (hC.wide (D' := fun b => b = w.heap.size ∨ b = gx) (fun b hb => .inr hb)).trans (Chg.one g9 (.inl rfl))
 simp only [Act.put, qsT, qsZ, qsS]
 go_wp2
 refine bodyPost_agg2 Tryz.results50 rfl rfl h9.range u1 u2 (szHD_ (by rfl)) rfl ?_
 refine OpR.ok (RetHp.mk (hl.chg hC nL) (fun a ha => by have := hf a ha; omega) (be.trans (hC.below (B := w.heap.size) (fun b hb => ?_) be.size)))
 have hb' : b = w.heap.size ∨ b = gx := hb
 omega
end

section
open Go.RowKit
attribute [local go_sem ↓] sliced_cut
attribute [local go_sem] cutA_zero
def RetSegE (w : World) (x0 x1 x2 x3 x4 x5 x6 x7 : Nat) (o1 o2 : List UInt8) (E : Int) (e : Ending) (w' : World) : Prop := if E = 0 then RetSegF w x0 x1 x2 x3 x4 x5 x6 x7 o1 o2 (.int .i64 0) e w' else RetSeg w 0 0 0 0 0 0 0 0 [] [] (.int .i64 E) e w'
theorem RetSegE.err {w : World} {x0 x1 x2 x3 x4 x5 x6 x7 : Nat} {o1 o2 : List UInt8} {E : Int} {e : Ending} {w' : World} (hE : ¬ E = 0) (h : RetSeg w 0 0 0 0 0 0 0 0 [] [] (.int .i64 E) e w') : RetSegE w x0 x1 x2 x3 x4 x5 x6 x7 o1 o2 E e w' := by unfold RetSegE; rw [if_neg hE]; exact h
theorem RetSegE.ok {w : World} {x0 x1 x2 x3 x4 x5 x6 x7 : Nat} {o1 o2 : List UInt8} {e : Ending} {w' : World} (h : RetSegF w x0 x1 x2 x3 x4 x5 x6 x7 o1 o2 (.int .i64 0) e w') : RetSegE w x0 x1 x2 x3 x4 x5 x6 x7 o1 o2 0 e w' := by unfold RetSegE; rw [if_pos rfl]; exact h
structure TcpAny (l : List UInt8) (x0 x1 x2 x3 x4 x5 x6 x7 : Nat) (o1 o2 : List UInt8) (E : Int) : Prop where
 b : x0 < 65536 ∧ x1 < 65536 ∧ x2 < 4294967296 ∧ x3 < 4294967296 ∧ x4 < 256 ∧ x5 < 65536 ∧ x6 < 65536 ∧ x7 < 65536
 o : o1.length ≤ 40 ∧ o1.length % 4 = 0 ∧ o2.length ≤ l.length ∧ o1.length + o2.length ≤ l.length - 20
 f : E = 0 → 20 ≤ l.length ∧ x0 = num ((l.drop 0).take 2) ∧ x1 = num ((l.drop 2).take 2) ∧ num ((l.drop 12).take 1) % 16 = 0 ∧ 5 ≤ num ((l.drop 12).take 1) / 16 ∧ 4 * (num ((l.drop 12).take 1) / 16) ≤ l.length ∧ o1 = (l.drop 20).take (4 * (num ((l.drop 12).take 1) / 16) - 20)
 P : ∀ w A n c, Rb w A n c l → Calls Tryz.prog 74 #[.slice A n c] w (RetSegE w x0 x1 x2 x3 x4 x5 x6 x7 o1 o2 E)
 R : ∀ w A n c, Rb w A n c l → NoC #[.slice A n c] w (RetSegE w x0 x1 x2 x3 x4 x5 x6 x7 o1 o2 E)
theorem tcp_bad (l : List UInt8) (E : Int) (hE : ¬ E = 0) (hP : ∀ w A n c, Rb w A n c l → Calls Tryz.prog 74 #[.slice A n c] w (RetSeg w 0 0 0 0 0 0 0 0 [] [] (.int .i64 E))) (hR : ∀ w A n c, Rb w A n c l → NoC #[.slice A n c] w (RetSeg w 0 0 0 0 0 0 0 0 [] [] (.int .i64 E))) : TcpAny l 0 0 0 0 0 0 0 0 [] [] E :=
 ⟨⟨by omega, by omega, by omega, by omega, by omega, by omega, by omega, by omega⟩, ⟨by simp, by simp, by simp, by simp⟩, fun h => absurd h hE, fun w A n c h => (hP w A n c h).mono fun _ _ => RetSegE.err hE, fun w A n c h => (hR w A n c h).mono fun _ _ => RetSegE.err hE⟩
theorem tcp_any (l : List UInt8) (hl : l.length ≤ 2000000) : ∃ (x0 x1 x2 x3 x4 x5 x6 x7 : Nat) (o1 o2 : List UInt8) (E : Int), TcpAny l x0 x1 x2 x3 x4 x5 x6 x7 o1 o2 E ∧ (E = 0 → 20 ≤ l.length ∧ x0 = num ((l.drop 0).take 2) ∧ x1 = num ((l.drop 2).take 2) ∧ num ((l.drop 12).take 1) % 16 = 0 ∧ 5 ≤ num ((l.drop 12).take 1) / 16 ∧ 4 * (num ((l.drop 12).take 1) / 16) ≤ l.length ∧ o1 = (l.drop 20).take (4 * (num ((l.drop 12).take 1) / 16) - 20)) := by
 by_cases g0 : l.length < 20
 ·exact ⟨_, _, _, _, _, _, _, _, _, _, 20, tcp_bad l 20 (by decide) (fun w A n c h => tcpParse_short A n c l w h (by rw [← h.1]; exact g0)) (fun w A n c h => refTcpParse_short A n c l w h (by rw [← h.1]; exact g0)), fun h => absurd h (by decide)⟩
 by_cases g1 : num ((l.drop 12).take 1) / 16 < 5
 ·exact ⟨_, _, _, _, _, _, _, _, _, _, 21, tcp_bad l 21 (by decide) (fun w A n c h => tcpParse_form1 A n c l w h (by have := h.1; omega) (by have := h.1; omega) _ _ _ _ _ _ _ _ _ rfl rfl rfl rfl rfl rfl rfl rfl rfl g1) (fun w A n c h => refTcpParse_form1 A n c l w h (by have := h.1; omega) (by have := h.1; omega) _ _ _ _ _ _ _ _ _ rfl rfl rfl rfl rfl rfl rfl rfl rfl g1), fun h => absurd h (by decide)⟩
 by_cases g2 : num ((l.drop 12).take 1) % 16 = 0
 case neg => exact ⟨_, _, _, _, _, _, _, _, _, _, 21, tcp_bad l 21 (by decide) (fun w A n c h => tcpParse_form2 A n c l w h (by have := h.1; omega) (by have := h.1; omega) _ _ _ _ _ _ _ _ _ rfl rfl rfl rfl rfl rfl rfl rfl rfl (by omega) g2) (fun w A n c h => refTcpParse_form2 A n c l w h (by have := h.1; omega) (by have := h.1; omega) _ _ _ _ _ _ _ _ _ rfl rfl rfl rfl rfl rfl rfl rfl rfl (by omega) g2), fun h => absurd h (by decide)⟩
 by_cases g3 : l.length < 4 * (num ((l.drop 12).take 1) / 16)
 ·exact ⟨_, _, _, _, _, _, _, _, _, _, 20, tcp_bad l 20 (by decide) (fun w A n c h => tcpParse_short2 A n c l w h (by have := h.1; omega) (by have := h.1; omega) _ _ _ _ _ _ _ _ _ rfl rfl rfl rfl rfl rfl rfl rfl rfl (by omega) g2 (by have := h.1; omega)) (fun w A n c h => refTcpParse_short2 A n c l w h (by have := h.1; omega) (by have := h.1; omega) _ _ _ _ _ _ _ _ _ rfl rfl rfl rfl rfl rfl rfl rfl rfl (by omega) g2 (by have := h.1; omega)), fun h => absurd h (by decide)⟩
 have kf : num ((l.drop 12).take 1) < 256 := num_lt' l 12 1 256 (by decide)
 refine ⟨_, _, _, _, _, _, _, _, _, _, 0, ⟨⟨num_lt' l 0 2 65536 (by decide), num_lt' l 2 2 65536 (by decide), num_lt' l 4 4 4294967296 (by decide), num_lt' l 8 4 4294967296 (by decide), num_lt' l 13 1 256 (by decide), num_lt' l 14 2 65536 (by decide), num_lt' l 16 2 65536 (by decide), num_lt' l 18 2 65536 (by decide)⟩, ⟨?_, ?_, ?_, ?_⟩, fun _ => ⟨by omega, rfl, rfl, g2, by omega, by omega, rfl⟩, fun w A n c h => (tcpParse_okF A n c l w h (by have := h.1; omega) (by have := h.1; omega) _ _ _ _ _ _ _ _ _ rfl rfl rfl rfl rfl rfl rfl rfl rfl (by omega) g2 _ rfl (by have := h.1; omega)).mono fun _ _ => RetSegE.ok, fun w A n c h => (refTcpParse_okF A n c l w h (by have := h.1; omega) (by have := h.1; omega) _ _ _ _ _ _ _ _ _ rfl rfl rfl rfl rfl rfl rfl rfl rfl (by omega) g2 _ rfl (by have := h.1; omega)).mono fun _ _ => RetSegE.ok⟩, fun _ => ⟨by omega, rfl, rfl, g2, by omega, by omega, rfl⟩⟩
 ·rw [List.length_take, List.length_drop]; omega
 ·rw [List.length_take, List.length_drop]; omega
 ·rw [List.length_drop]; omega
 ·rw [List.length_take, List.length_drop, List.length_drop]; omega
def RetDgE (w : World) (x0 x1 x2 : Nat) (o1 : List UInt8) (E : Int) (e : Ending) (w' : World) : Prop := if E = 0 then RetDgF w x0 x1 x2 o1 (.int .i64 0) e w' else RetDg w 0 0 0 [] (.int .i64 E) e w'
theorem RetDgE.err {w : World} {x0 x1 x2 : Nat} {o1 : List UInt8} {E : Int} {e : Ending} {w' : World} (hE : ¬ E = 0) (h : RetDg w 0 0 0 [] (.int .i64 E) e w') : RetDgE w x0 x1 x2 o1 E e w' := by unfold RetDgE; rw [if_neg hE]; exact h
theorem RetDgE.ok {w : World} {x0 x1 x2 : Nat} {o1 : List UInt8} {e : Ending} {w' : World} (h : RetDgF w x0 x1 x2 o1 (.int .i64 0) e w') : RetDgE w x0 x1 x2 o1 0 e w' := by unfold RetDgE; rw [if_pos rfl]; exact h
structure UdpAny (l : List UInt8) (x0 x1 x2 : Nat) (o1 : List UInt8) (E : Int) : Prop where
 b : x0 < 65536 ∧ x1 < 65536 ∧ x2 < 65536
 o : o1.length ≤ l.length - 8
 f : E = 0 → 8 ≤ l.length ∧ x0 = num ((l.drop 0).take 2) ∧ x1 = num ((l.drop 2).take 2)
 P : ∀ w A n c, Rb w A n c l → Calls Tryz.prog 76 #[.slice A n c] w (RetDgE w x0 x1 x2 o1 E)
 R : ∀ w A n c, Rb w A n c l → NoC #[.slice A n c] w (RetDgE w x0 x1 x2 o1 E)
theorem udp_bad (l : List UInt8) (E : Int) (hE : ¬ E = 0) (hP : ∀ w A n c, Rb w A n c l → Calls Tryz.prog 76 #[.slice A n c] w (RetDg w 0 0 0 [] (.int .i64 E))) (hR : ∀ w A n c, Rb w A n c l → NoC #[.slice A n c] w (RetDg w 0 0 0 [] (.int .i64 E))) : UdpAny l 0 0 0 [] E :=
 ⟨⟨by omega, by omega, by omega⟩, by simp, fun h => absurd h hE, fun w A n c h => (hP w A n c h).mono fun _ _ => RetDgE.err hE, fun w A n c h => (hR w A n c h).mono fun _ _ => RetDgE.err hE⟩
theorem udp_any (l : List UInt8) (hl : l.length ≤ 2000000) : ∃ (x0 x1 x2 : Nat) (o1 : List UInt8) (E : Int), UdpAny l x0 x1 x2 o1 E ∧ (E = 0 → 8 ≤ l.length ∧ x0 = num ((l.drop 0).take 2) ∧ x1 = num ((l.drop 2).take 2)) := by
 by_cases g0 : l.length < 8
 ·exact ⟨_, _, _, _, 20, udp_bad l 20 (by decide) (fun w A n c h => udpParse_short A n c l w h (by rw [← h.1]; exact g0)) (fun w A n c h => refUdpParse_short A n c l w h (by rw [← h.1]; exact g0)), fun h => absurd h (by decide)⟩
 by_cases g1 : num ((l.drop 4).take 2) < 8
 ·exact ⟨_, _, _, _, 21, udp_bad l 21 (by decide) (fun w A n c h => udpParse_form A n c l w h (by have := h.1; omega) (by have := h.1; omega) _ _ _ _ rfl rfl rfl rfl g1) (fun w A n c h => refUdpParse_form A n c l w h (by have := h.1; omega) (by have := h.1; omega) _ _ _ _ rfl rfl rfl rfl g1), fun h => absurd h (by decide)⟩
 by_cases g2 : l.length < num ((l.drop 4).take 2)
 ·exact ⟨_, _, _, _, 20, udp_bad l 20 (by decide) (fun w A n c h => udpParse_short2 A n c l w h (by have := h.1; omega) (by have := h.1; omega) _ _ _ _ rfl rfl rfl rfl (by omega) (by have := h.1; omega)) (fun w A n c h => refUdpParse_short2 A n c l w h (by have := h.1; omega) (by have := h.1; omega) _ _ _ _ rfl rfl rfl rfl (by omega) (by have := h.1; omega)), fun h => absurd h (by decide)⟩
 refine ⟨_, _, _, _, 0, ⟨⟨num_lt' l 0 2 65536 (by decide), num_lt' l 2 2 65536 (by decide), num_lt' l 6 2 65536 (by decide)⟩, ?_, fun _ => ⟨by omega, rfl, rfl⟩, fun w A n c h => (udpParse_okF A n c l w h (by have := h.1; omega) (by have := h.1; omega) _ _ _ _ rfl rfl rfl rfl (by omega) (by have := h.1; omega)).mono fun _ _ => RetDgE.ok, fun w A n c h => (refUdpParse_okF A n c l w h (by have := h.1; omega) (by have := h.1; omega) _ _ _ _ rfl rfl rfl rfl (by omega) (by have := h.1; omega)).mono fun _ _ => RetDgE.ok⟩, fun _ => ⟨by omega, rfl, rfl⟩⟩
 rw [List.length_take, List.length_drop]; omega
structure IcmpAny (l : List UInt8) (x0 x1 x2 x3 : Nat) (o1 : List UInt8) (ok : Bool) : Prop where
 b : x0 < 256 ∧ x1 < 256 ∧ x2 < 65536 ∧ x3 < 4294967296
 o : o1.length ≤ l.length - 8
 P : ∀ w A n c, Rb w A n c l → Calls Tryz.prog 78 #[.slice A n c] w (RetMg w x0 x1 x2 x3 o1 (.int .i64 (if ok then 0 else 20)))
 R : ∀ w A n c, Rb w A n c l → NoC #[.slice A n c] w (RetMg w x0 x1 x2 x3 o1 (.bool ok))
theorem icmp_any (l : List UInt8) (hl : l.length ≤ 2000000) : ∃ (x0 x1 x2 x3 : Nat) (o1 : List UInt8) (ok : Bool), IcmpAny l x0 x1 x2 x3 o1 ok := by
 by_cases g0 : l.length < 8
 ·exact ⟨0, 0, 0, 0, [], false, ⟨by omega, by omega, by omega, by omega⟩, by simp, fun w A n c h => icmpParseS A n c l w h (by rw [← h.1]; exact g0), fun w A n c h => refIcmpS A n c l w h (by rw [← h.1]; exact g0)⟩
 exact ⟨_, _, _, _, _, true, ⟨num_lt' l 0 1 256 (by decide), num_lt' l 1 1 256 (by decide), num_lt' l 2 2 65536 (by decide), num_lt' l 4 4 4294967296 (by decide)⟩, by simp, fun w A n c h => icmpParseX A n c l w h (by have := h.1; omega) (by have := h.1; omega) _ _ _ _ rfl rfl rfl rfl, fun w A n c h => refIcmpX A n c l w h (by have := h.1; omega) (by have := h.1; omega) _ _ _ _ rfl rfl rfl rfl⟩
structure PI where
 si : Bool
 st : Bool
 tl : Nat
 s6 : Bool
 sh : Nat
 sl : Nat
 d6 : Bool
 dh : Nat
 dl : Nat
 sp : Nat
 dp : Nat
 pr : Nat
 x0 : Nat := 0
 x1 : Nat := 0
 x2 : Nat := 0
 x3 : Nat := 0
 x4 : Nat := 0
 x5 : Nat := 0
 x6 : Nat := 0
 x7 : Nat := 0
 o1 : List UInt8 := []
 o2 : List UInt8 := []
 u0 : Nat := 0
 u1 : Nat := 0
 u2 : Nat := 0
 o3 : List UInt8 := []
 m0 : Nat := 0
 m1 : Nat := 0
 m2 : Nat := 0
 m3 : Nat := 0
 o4 : List UInt8 := []
def PI.zero : PI := { si := false, st := false, tl := 0, s6 := false, sh := 0, sl := 0, d6 := false, dh := 0, dl := 0, sp := 0, dp := 0, pr := 0 }
def PI.fh (p : PI) : List Value := fhC p.si p.st p.tl p.s6 p.sh p.sl p.d6 p.dh p.dl p.sp p.dp p.pr
def PI.cs (p : PI) (A1 : Option Addr) (n1 c1 : Nat) (A2 : Option Addr) (n2 c2 : Nat) (A3 : Option Addr) (n3 c3 : Nat) (A4 : Option Addr) (n4 c4 : Nat) : List Value := inPk p.fh (tcC p.x0 p.x1 p.x2 p.x3 p.x4 p.x5 p.x6 p.x7 A1 n1 c1 A2 n2 c2) (dgX p.u0 p.u1 p.u2 A3 n3 c3) (msgC p.m0 p.m1 p.m2 p.m3 A4 n4 c4)
def RetPI (w : World) (p : PI) (why : Int) (e : Ending) (w' : World) : Prop := ∃ A1 n1 c1 A2 n2 c2 A3 n3 c3 A4 n4 c4 bs d, e = .returned (.tuple #[.agg (p.cs A1 n1 c1 A2 n2 c2 A3 n3 c3 A4 n4 c4).toArray, .int .i64 why]) ∧ w' = plus w bs d ∧ Rb (plus w bs d) A1 n1 c1 p.o1 ∧ Rb (plus w bs d) A2 n2 c2 p.o2 ∧ Rb (plus w bs d) A3 n3 c3 p.o3 ∧ Rb (plus w bs d) A4 n4 c4 p.o4 ∧ (∀ a, A1 = some a → w.heap.size ≤ a.block) ∧ (∀ a, A2 = some a → w.heap.size ≤ a.block) ∧ (∀ a, A3 = some a → w.heap.size ≤ a.block) ∧ ∀ a, A4 = some a → w.heap.size ≤ a.block
theorem RetPI.mk {w w' : World} {p : PI} {why : Int} {A1 : Option Addr} {n1 c1 : Nat} {A2 : Option Addr} {n2 c2 : Nat} {A3 : Option Addr} {n3 c3 : Nat} {A4 : Option Addr} {n4 c4 : Nat} (h1 : Rb w' A1 n1 c1 p.o1) (h2 : Rb w' A2 n2 c2 p.o2) (h3 : Rb w' A3 n3 c3 p.o3) (h4 : Rb w' A4 n4 c4 p.o4) (f1 : ∀ a, A1 = some a → w.heap.size ≤ a.block) (f2 : ∀ a, A2 = some a → w.heap.size ≤ a.block) (f3 : ∀ a, A3 = some a → w.heap.size ≤ a.block) (f4 : ∀ a, A4 = some a → w.heap.size ≤ a.block) (hb : Below w.heap.size w w') : RetPI w p why (.returned (.tuple #[.agg (p.cs A1 n1 c1 A2 n2 c2 A3 n3 c3 A4 n4 c4).toArray, .int .i64 why])) w' := by
 obtain ⟨bs, d, rfl⟩ := plus_of hb
 exact ⟨A1, n1, c1, A2, n2, c2, A3, n3, c3, A4, n4, c4, bs, d, rfl, rfl, h1, h2, h3, h4, f1, f2, f3, f4⟩
theorem PI.one (p : PI) (A1 : Option Addr) (n1 c1 : Nat) (A2 : Option Addr) (n2 c2 : Nat) (A3 : Option Addr) (n3 c3 : Nat) (A4 : Option Addr) (n4 c4 : Nat) : ∀ u ∈ p.cs A1 n1 c1 A2 n2 c2 A3 n3 c3 A4 n4 c4, u.oneCell' = true := inPk_one (fhC_one _ _ _ _ _ _ _ _ _ _ _ _) (tcC_one _ _ _ _ _ _ _ _ _ _ _ _ _ _) (dgX_one _ _ _ _ _ _) (msgC_one _ _ _ _ _ _ _)
theorem noRow {B : Nat} : ∀ a : Addr, (none : Option Addr) = some a → B ≤ a.block := fun a h => by cases h
end

end Go.Proofs.YtlpbahleaeieoaaGreat
